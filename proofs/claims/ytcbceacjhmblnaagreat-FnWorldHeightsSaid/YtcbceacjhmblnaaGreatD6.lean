/- What is proved here: parts D6 of the walk of the law and of its plain side; no condition but those that each theorem states. -/
import Derived.Test.YtcbceacjhmblnaaGreatD5
import Derived.Test.YtcbceacjhmblnaaGreatA3
/- Plain: the states of a chain one behind the other. -/
set_option linter.all false
namespace Go.Hw
/-- All states of a chain one behind the other. -/
def Chain.line (c : Chain) : List State := c.past ++ [c.state]
theorem line_len (c : Chain) : c.line.length = c.past.length + 1 := by simp [Chain.line]
theorem line_pw {c : Chain} (h : CInv c) : c.line.Pairwise Mono := by
  unfold Chain.line
  rw [List.pairwise_append]
  refine ⟨h.pw, by simp, fun a ha b hb => ?_⟩
  have : b = c.state := by simpa using hb
  rw [this]; exact h.last a ha
theorem line_ok {c : Chain} (h : c.ok = true) : ∀ s ∈ c.line, s.ok = true := by
  intro s hs
  rcases List.mem_append.1 hs with hs | hs
  · obtain ⟨i, hi, rfl⟩ := List.mem_iff_getElem.1 hs
    have := (chain_ok h).2.2.2.2.1 i hi
    simpa [List.getD, hi] using this
  · have : s = c.state := by simpa using hs
    rw [this]; exact (chain_ok h).2.2.1
theorem line_new {c : Chain} (h : c.ok = true) (I : CInv c) : (State.new :: c.line).Pairwise Mono :=
  List.pairwise_cons.2 ⟨fun s hs => mono_new (line_ok h s hs), line_pw I⟩
theorem line_get {c : Chain} (h : c.ok = true) {k : Nat} (hk : k < c.line.length) : (c.line.getD k default).ok = true :=
  line_ok h _ (getD_mem hk)
theorem line0_get {c : Chain} (h : c.ok = true) {k : Nat} (hk : k < (State.new :: c.line).length) : ((State.new :: c.line).getD k default).ok = true := by
  have : ∀ s ∈ State.new :: c.line, s.ok = true := fun s hs => by
    rcases List.mem_cons.1 hs with rfl | hs
    · decide
    · exact line_ok h s hs
  exact this _ (getD_mem hk)
/-- A law has all states of one chain in a row. -/
def jP (a b : Chain) (i : Int) (n : Nat) (l : List State) : St := ⟨[(4, .o (.c (.ptr 0 0 0 0))), (8, .o (I i)), (9, .o (.c (.sl 1 7 0 n)))], [(0, .box [.t (chainsT (Two.list ⟨a, b⟩))]), (1, .row 7 n (fS l))], 2⟩
theorem rle_new {H : Heap} {fz : Nat → Prop} {τ : List (Nat × Nat)} {N : Nat} {l : List State} {s : State} {c0 c1 c2 c3 c4 c5 c6 d0 d1 d2 d3 d4 d5 d6 : Cell}
    (h : cle H fz τ N c0 (.t (State.new.tv 0)) ∧ cle H fz τ N c1 (.t (State.new.tv 1)) ∧ cle H fz τ N c2 (.t (State.new.tv 2)) ∧ cle H fz τ N c3 (.t (State.new.tv 3)) ∧ cle H fz τ N c4 (.t (State.new.tv 4)) ∧ cle H fz τ N c5 (.t (State.new.tv 5)) ∧ cle H fz τ N c6 (.t (State.new.tv 6)))
    (g : cle H fz τ N d0 (.t (s.tv 0)) ∧ cle H fz τ N d1 (.t (s.tv 1)) ∧ cle H fz τ N d2 (.t (s.tv 2)) ∧ cle H fz τ N d3 (.t (s.tv 3)) ∧ cle H fz τ N d4 (.t (s.tv 4)) ∧ cle H fz τ N d5 (.t (s.tv 5)) ∧ cle H fz τ N d6 (.t (s.tv 6))) :
    rle H fz τ N 7 (l.length + 2) (app (1 + l.length) (app 1 (rowOf 7 [c0, c1, c2, c3, c4, c5, c6]) (fS l)) (rowOf 7 [d0, d1, d2, d3, d4, d5, d6])) (fS (State.new :: (l ++ [s]))) := by
  intro i hi j hj
  obtain ⟨h0, h1, h2, h3, h4, h5, h6⟩ := h
  obtain ⟨g0, g1, g2, g3, g4, g5, g6⟩ := g
  by_cases hz : i = 0
  · subst hz
    have e1 : app (1 + l.length) (app 1 (rowOf 7 [c0, c1, c2, c3, c4, c5, c6]) (fS l)) (rowOf 7 [d0, d1, d2, d3, d4, d5, d6]) 0 j = rowOf 7 [c0, c1, c2, c3, c4, c5, c6] 0 j := by simp [app]
    have e2 : fS (State.new :: (l ++ [s])) 0 j = .t (State.new.tv j) := by simp [fS]
    rw [e1, e2]
    match j, hj with
    | 0, _ => exact h0
    | 1, _ => exact h1
    | 2, _ => exact h2
    | 3, _ => exact h3
    | 4, _ => exact h4
    | 5, _ => exact h5
    | 6, _ => exact h6
  · obtain ⟨k, rfl⟩ : ∃ k, i = k + 1 := ⟨i - 1, by omega⟩
    by_cases hl : k < l.length
    · have e1 : app (1 + l.length) (app 1 (rowOf 7 [c0, c1, c2, c3, c4, c5, c6]) (fS l)) (rowOf 7 [d0, d1, d2, d3, d4, d5, d6]) (k + 1) j = .t ((l.getD k default).tv j) := by
        simp [app, fS, show k + 1 < 1 + l.length by omega]
      have e2 : fS (State.new :: (l ++ [s])) (k + 1) j = .t ((l.getD k default).tv j) := by simp [fS, List.getD, List.getElem?_append, hl]
      rw [e1, e2]; simp [cle_t, tof_t, tle_refl]
    · have hk : k = l.length := by omega
      subst hk
      have e1 : app (1 + l.length) (app 1 (rowOf 7 [c0, c1, c2, c3, c4, c5, c6]) (fS l)) (rowOf 7 [d0, d1, d2, d3, d4, d5, d6]) (l.length + 1) j = rowOf 7 [d0, d1, d2, d3, d4, d5, d6] 0 j := by
        simp [app, show ¬ l.length + 1 < 1 + l.length by omega, show l.length + 1 - (1 + l.length) = 0 by omega]
      have e2 : fS (State.new :: (l ++ [s])) (l.length + 1) j = .t (s.tv j) := by simp [fS, List.getD]
      rw [e1, e2]
      match j, hj with
      | 0, _ => exact g0
      | 1, _ => exact g1
      | 2, _ => exact g2
      | 3, _ => exact g3
      | 4, _ => exact g4
      | 5, _ => exact g5
      | 6, _ => exact g6
theorem rle_line {H : Heap} {fz : Nat → Prop} {τ : List (Nat × Nat)} {N : Nat} {l : List State} {s : State} {d0 d1 d2 d3 d4 d5 d6 : Cell}
    (g : cle H fz τ N d0 (.t (s.tv 0)) ∧ cle H fz τ N d1 (.t (s.tv 1)) ∧ cle H fz τ N d2 (.t (s.tv 2)) ∧ cle H fz τ N d3 (.t (s.tv 3)) ∧ cle H fz τ N d4 (.t (s.tv 4)) ∧ cle H fz τ N d5 (.t (s.tv 5)) ∧ cle H fz τ N d6 (.t (s.tv 6))) :
    rle H fz τ N 7 (l.length + 1) (app l.length (fS l) (rowOf 7 [d0, d1, d2, d3, d4, d5, d6])) (fS (l ++ [s])) := by
  intro i hi j hj
  obtain ⟨g0, g1, g2, g3, g4, g5, g6⟩ := g
  by_cases hl : i < l.length
  · have e1 : app l.length (fS l) (rowOf 7 [d0, d1, d2, d3, d4, d5, d6]) i j = .t ((l.getD i default).tv j) := by simp [app, fS, hl]
    have e2 : fS (l ++ [s]) i j = .t ((l.getD i default).tv j) := by simp [fS, List.getD, List.getElem?_append, hl]
    rw [e1, e2]; simp [cle_t, tof_t, tle_refl]
  · have hk : i = l.length := by omega
    subst hk
    have e1 : app l.length (fS l) (rowOf 7 [d0, d1, d2, d3, d4, d5, d6]) l.length j = rowOf 7 [d0, d1, d2, d3, d4, d5, d6] 0 j := by simp [app]
    have e2 : fS (l ++ [s]) l.length j = .t (s.tv j) := by simp [fS, List.getD]
    rw [e1, e2]
    match j, hj with
    | 0, _ => exact g0
    | 1, _ => exact g1
    | 2, _ => exact g2
    | 3, _ => exact g3
    | 4, _ => exact g4
    | 5, _ => exact g5
    | 6, _ => exact g6
theorem or_live {p q : Bool} (h : p = true → q = true) : (p = false ∧ p = false) ∨ (p = true ∧ q = true) := by
  cases p
  · exact .inl ⟨rfl, rfl⟩
  · exact .inr ⟨rfl, h rfl⟩
end Go.Hw
