/- What is proved here: parts D5 of the walk of the law and of its plain side; no condition but those that each theorem states. -/
import Derived.Test.YtcbceacjhmblnaaGreatA4
/- Plain: what the laws over plays ask of two chains, out of what stays so. -/
set_option linter.all false
namespace Go.Hw
theorem pw_get {α : Type} {R : α → α → Prop} {l : List α} (h : l.Pairwise R) (d : α) {k : Nat} (h0 : 0 < k) (hk : k < l.length) : R (l.getD ((k : Int) - 1).toNat d) (l.getD k d) := by
  have e : ((k : Int) - 1).toNat = k - 1 := by omega
  have := List.pairwise_iff_getElem.1 h (k - 1) k (by omega) hk (by omega)
  rw [e]
  simpa [List.getD, hk, show k - 1 < l.length by omega] using this
/-- What comes comes in time. -/
theorem time_same {c o : Chain} (D : LInv c o) {n : Nat} (hn : n < c.state.sent.length) {h : Int} (h2 : 2 ≤ h) (hl : h ≤ o.past.length) (ht : (c.state.sent.getD n default).till ≤ h) :
    (o.past.getD (h - 1).toNat default).got.getD n 0 = (o.past.getD (h - 2).toNat default).got.getD n 0 := by
  rw [D.time n hn (h - 1).toNat (by omega) (by omega), D.time n hn (h - 2).toNat (by omega) (by omega)]
theorem time_none {c o : Chain} (D : LInv c o) (I : CInv o) {n : Nat} (ht : (c.state.sent.getD n default).till ≤ 1) (hl : 1 ≤ o.past.length) :
    (o.past.getD 0 default).got.getD n 0 = 0 := by
  refine Classical.byContradiction fun hno => ?_
  have := (I.last _ (getD_mem (d := default) (show 0 < o.past.length by omega))).got n hno
  have := D.gs n (by rw [this]; exact hno)
  omega
theorem time_back {c o : Chain} (D : LInv c o) {n : Nat} (hn : n < c.state.sent.length) (hb : c.state.back.getD n false = true) (h1 : 1 ≤ (c.state.sent.getD n default).till) (hl : (c.state.sent.getD n default).till ≤ o.past.length) :
    (o.past.getD ((c.state.sent.getD n default).till - 1).toNat default).got.getD n 0 ≠ 1 := by
  rw [D.time n hn ((c.state.sent.getD n default).till - 1).toNat (by omega) (by omega)]
  rcases D.bk n hn hb with a | a <;> omega
theorem once_back {c o : Chain} (D : LInv c o) {n : Nat} (hn : n < c.state.sent.length) (hb : c.state.back.getD n false = true) : o.state.got.getD n 0 ≠ 1 := by
  rcases D.bk n hn hb with a | a <;> omega
theorem once_none {c o : Chain} (D : LInv c o) {n : Nat} (hn : c.state.sent.length ≤ n) : o.state.got.getD n 0 = 0 := by
  refine Classical.byContradiction fun hno => ?_
  have := (D.gs n hno).1
  omega
theorem ver_live {c o : Chain} (D : LInv c o) (k : Nat) (h : c.state.live.getD k false = true) : ¬ o.state.ver = c.state.ver + 1 := by
  intro e
  have z := (D.ahead e).2 k
  rw [h] at z; cases z
theorem packet_till {p : Packet} (h : p.ok = true) : 1 ≤ p.till ∧ p.till ≤ 90 := by
  simp only [Packet.ok, Bool.and_eq_true, In_iff] at h
  omega
end Go.Hw
