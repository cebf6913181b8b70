/- What is proved here: parts W75 of the walk of the law and of its plain side; no condition but those that each theorem states. -/
import Derived.Test.YtcbceacjhmblnaaGreatW77
import Derived.Test.YtcbceacjhmblnaaGreatW78
/- What is proved: what the laws say of sums and of what came, of every world that a play comes to. -/
set_option linter.all false
namespace Go.Hw
open Go.Proofs
theorem lwSums_w (w : Two) (I : ZInv w) : Call Tryz.prog 31 [.g [.t (chainsT w.list)]] [] 0 (.o (BB true)) [] 0 := by
  obtain ⟨a, b⟩ := w
  exact lwSums_ok a b I.winv.ok I.ab I.ba
theorem lwOnce_w (w : Two) (I : ZInv w) : Call Tryz.prog 26 [.g [.t (chainsT w.list)]] [] 0 (.o (BB true)) [] 0 := by
  obtain ⟨a, b⟩ := w
  exact lwOnce_ok a b I.winv
theorem iWorldOk_w (w : Two) (I : ZInv w) : Call Tryz.prog 32 [.g [.t (chainsT w.list)]] [] 0 (.o (BB true)) [] 0 := by
  obtain ⟨a, b⟩ := w
  exact iWorldOk_yes a b I.winv.ok
theorem sl_congr {w : World} {A : Nat → Prop} {wd n : Nat} {f g : Nat → Nat → TV} (h : ∀ i, i < n → f i = g i) {v : Value} (hv : (TV.sl wd n f).At w A v) : (TV.sl wd n g).At w A v := by
  obtain ⟨a, cap, e, hc, hv⟩ := hv
  refine ⟨a, cap, e, hc, fun i hi => ?_⟩
  obtain ⟨b, o, h1, h2, h3⟩ := hv i hi
  exact ⟨b, o, h1, h2, fun j hj => by rw [← h i hi]; exact h3 j hj⟩
theorem Call.arg1 {P : Program} {f : FuncId} {x y : A1} {res : AV} {H' : Heap} {k' : Nat} (h : Call P f [y] [] 0 res H' k') (hxy : ∀ (w : World) (A : Nat → Prop) (ρ : Rho) (v : Value), x.At w A ρ v → y.At w A ρ v) : Call P f [x] [] 0 res H' k' := by
  refine ⟨h.1, h.2.1, fun w A ρ vs hvs => h.2.2 w A ρ vs ?_⟩
  revert hvs
  generalize vs.toList = l
  intro hvs
  match l, hvs with
  | [v], ⟨h1, _⟩ => exact ⟨hxy w A ρ v h1, trivial⟩
theorem iWorldPlay_cut (es : List Event) (h : es.length ≤ 60) (k : Nat) (hk : k ≤ es.length) : Call Tryz.prog 20 [.c (.t (.sl 11 k (tE es)))] [] 0 (.tup [.g [.t (chainsT (Two.new.play (es.take k)).list)], BB true]) [] 0 := by
  have hl : (es.take k).length = k := by rw [List.length_take]; omega
  refine (iWorldPlay_ok (es.take k) (by omega)).arg1 (fun w A ρ v hv => ?_)
  show (TV.sl 11 (es.take k).length (tE (es.take k))).At w A v
  rw [hl]
  refine sl_congr (fun i hi => ?_) hv
  unfold tE
  rw [show (es.take k).getD i default = es.getD i default from by simp only [List.getD, List.getElem?_take, if_pos hi]]
end Go.Hw
