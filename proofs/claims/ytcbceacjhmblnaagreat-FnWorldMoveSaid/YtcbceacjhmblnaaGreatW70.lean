/- What is proved here: parts W70 of the walk of the law and of its plain side; no condition but those that each theorem states. -/
import Derived.Test.YtcbceacjhmblnaaGreatA3
import Derived.Test.YtcbceacjhmblnaaGreatProg
import Derived.TacticsInMore
import Derived.LoopNIn
import Derived.LoopIn
import Derived.Below
/- What is proved: the program's iterator over what a state lists as sent hands on all of it, in order. -/
set_option linter.all false
set_option maxRecDepth 100000
set_option maxHeartbeats 4000000
namespace Go.Hw
open Go.Proofs
attribute [local go_sem] Oper.semAt_some
theorem packets_iter (n : Nat) (hn8 : n ≤ 8) (f : Nat → Nat → TV) : IterR Tryz.prog 104 7 n f 3 := by
  intro l b off J W sv hgrow hbox htree hY h0
  obtain ⟨A0, hT0⟩ := htree 0 W h0
  obtain ⟨a, cap, rfl, hcap, _⟩ := hT0
  have hb0 : W.cell? ⟨b, off + 3, none⟩ = some (.slice a n cap) := hbox W h0
  have hel : ∀ i W, J i W → i < n → ∃ b2 o2, a = some ⟨b2, o2, none⟩ ∧ ∃ z0 z1 z2 z3 z4 z5 z6, (∀ v ∈ [z0, z1, z2, z3, z4, z5, z6], v.oneCell' = true) ∧ W.cell? ⟨b2, o2 + (i * 7 + 0), none⟩ = some z0 ∧ W.cell? ⟨b2, o2 + (i * 7 + 1), none⟩ = some z1 ∧ W.cell? ⟨b2, o2 + (i * 7 + 2), none⟩ = some z2 ∧ W.cell? ⟨b2, o2 + (i * 7 + 3), none⟩ = some z3 ∧ W.cell? ⟨b2, o2 + (i * 7 + 4), none⟩ = some z4 ∧ W.cell? ⟨b2, o2 + (i * 7 + 5), none⟩ = some z5 ∧ W.cell? ⟨b2, o2 + (i * 7 + 6), none⟩ = some z6 ∧
      ∀ A ρ, (TV.sl 7 n f).At W A (.slice a n cap) → (A1.g (tab 7 0 fun j => .t (f i j))).At W A ρ (.agg #[z0, z1, z2, z3, z4, z5, z6]) := by
    intro i W hJ hi
    obtain ⟨A, hT⟩ := htree i W hJ
    obtain ⟨a', cap', e, _, hT⟩ := hT
    injection e with e1 e2 e3; subst e1
    obtain ⟨b2, o2, ha, _, hc⟩ := hT i hi
    obtain ⟨z0, c0, p0⟩ := hc 0 (by omega)
    obtain ⟨z1, c1, p1⟩ := hc 1 (by omega)
    obtain ⟨z2, c2, p2⟩ := hc 2 (by omega)
    obtain ⟨z3, c3, p3⟩ := hc 3 (by omega)
    obtain ⟨z4, c4, p4⟩ := hc 4 (by omega)
    obtain ⟨z5, c5, p5⟩ := hc 5 (by omega)
    obtain ⟨z6, c6, p6⟩ := hc 6 (by omega)
    refine ⟨b2, o2, ha, z0, z1, z2, z3, z4, z5, z6, fun v hv => ?_, c0, c1, c2, c3, c4, c5, c6, fun A ρ hA => ?_⟩
    · simp only [List.mem_cons, List.not_mem_nil, or_false] at hv
      rcases hv with rfl | rfl | rfl | rfl | rfl | rfl | rfl <;> exact oneCell_of_plain (TV.At.plain (by assumption))
    obtain ⟨a', cap', e, _, hT⟩ := hA
    injection e with e1 e2 e3; subst e1
    obtain ⟨b3, o3, ha3, _, hc3⟩ := hT i hi
    rw [ha] at ha3; injection ha3 with ha3; injection ha3 with e1 e2; subst e1; subst e2
    refine ⟨_, rfl, ?_⟩
    have g : ∀ j z, j < 7 → W.cell? ⟨b2, o2 + (i * 7 + j), none⟩ = some z → (f i j).At W A z := by
      intro j z hj hz
      obtain ⟨z', hz', h⟩ := hc3 j hj
      rw [hz] at hz'; injection hz' with hz'; subst hz'; exact h
    exact ⟨g 0 _ (by omega) c0, g 1 _ (by omega) c1, g 2 _ (by omega) c2, g 3 _ (by omega) c3, g 4 _ (by omega) c4, g 5 _ (by omega) c5, g 6 _ (by omega) c6, trivial⟩
  refine callsIn_of_wp Tryz.func104 rfl trivial ?_ rfl
  simp only [Tryz.ntmps104, List.size_toArray, List.length_cons, List.length_nil, Nat.reduceAdd, Nat.reduceSub, Array.replicate_succ, Array.replicate_zero, List.push_toArray, List.append_toArray, List.nil_append, List.cons_append]
  gi_wp2
  gi_loopw [8] (fun i wr => ∃ k : Nat, k ≤ n ∧ i = .int .i64 k ∧ J k wr) (fun i _ => n - (Go.RowKit.intOf i).toNat)
  case atStart => exact ⟨0, Nat.zero_le _, rfl, h0⟩
  case round =>
    obtain ⟨k, hk, rfl, hJs⟩ := hrel
    by_cases hlt : k < n
    · obtain ⟨b2, o2, rfl, z0, z1, z2, z3, z4, z5, z6, h1c, c0, c1, c2, c3, c4, c5, c6, hv⟩ := hel k wr hJs hlt
      have e1 := c1
      have e2 := c2
      have e3 := c3
      have e4 := c4
      have e5 := c5
      have e6 := c6
      simp only [Nat.add_zero, ← Nat.add_assoc] at c0 c1 c2 c3 c4 c5 c6
      gi_wp2
      have hst := run_storeCells_at Tryz.prog wr.heap.size 0 42 [z0, z1, z2, z3, z4, z5, z6] 0 #[.int .i64 0, .int .i64 0, .int .i64 0, .int .i64 0, .int .i64 0, .int .i64 0, .int .i64 0]
        (wr.alloc (.cells #[.int .i64 0, .int .i64 0, .int .i64 0, .int .i64 0, .int .i64 0, .int .i64 0, .int .i64 0] 42)) (World.alloc_heap_new wr _) (Nat.le_refl 7) h1c
      have hid : ∀ r : Result Unit, (r.andThen fun _ w => Result.ok () w) = r := fun r => by cases r <;> rfl
      simp only [storeCells, Sem.run_bind, Addr.add, Nat.reduceAdd, Sem.run_pure, if_true, Nat.reduceEqDiff, if_false, hid] at hst
      generalize hW2 : World.setRow _ wr.heap.size _ = W2 at hst
      have hh : W2.heap[wr.heap.size]? = some (.cells #[z0, z1, z2, z3, z4, z5, z6] 42 (0, 0)) := by
        rw [← hW2, setRow_heap _ _ _ _ _ _ (World.alloc_heap_new wr _)]; rfl
      have hc : ∀ j z, #[z0, z1, z2, z3, z4, z5, z6][j]? = some z → W2.cell? ⟨wr.heap.size, j, none⟩ = some z := fun j z hz => by unfold World.cell?; rw [hh]; exact hz
      have d0 := hc 0 z0 rfl
      have d1 := hc 1 z1 rfl
      have d2 := hc 2 z2 rfl
      have d3 := hc 3 z3 rfl
      have d4 := hc 4 z4 rfl
      have d5 := hc 5 z5 rfl
      have d6 := hc 6 z6 rfl
      have hG : Grew wr W2 := by
        rw [← hW2]
        exact ⟨rfl, rfl, rfl, by simp, fun b hb => (setRow_other _ _ _ _ (by omega)).trans ((Grew.alloc wr _).same b hb)⟩
      have hJ2 := hgrow k wr W2 hJs hG
      obtain ⟨fn, tmps, assign, body, hy, hR⟩ := hY k W2 (.agg #[z0, z1, z2, z3, z4, z5, z6]) hJ2 hlt (fun A ρ hA => by
        have hT2 := hA
        refine ⟨_, rfl, ?_⟩
        obtain ⟨a', cap', e, _, hT⟩ := hA
        injection e with e1 e2 e3; subst e1
        obtain ⟨b3, o3, ha3, _, hc3⟩ := hT k hlt
        injection ha3 with ha3; injection ha3 with e1 e2; subst e1; subst e2
        have g : ∀ j z, j < 7 → wr.cell? ⟨b2, o2 + (k * 7 + j), none⟩ = some z → (f k j).At W2 A z := by
          intro j z hj hz
          obtain ⟨z', hz', h⟩ := hc3 j hj
          have hbl : b2 < wr.heap.size := by
            unfold World.cell? at hz
            cases ho : wr.heap[b2]? with
            | none => simp [ho] at hz
            | some o => exact (Array.getElem?_eq_some_iff.1 ho).1
          rw [cell?_of_heap (hG.same b2 hbl), hz] at hz'; injection hz' with hz'; subst hz'; exact h
        simp only [← Nat.add_assoc] at g
        exact ⟨g 0 _ (by omega) c0, g 1 _ (by omega) c1, g 2 _ (by omega) c2, g 3 _ (by omega) c3, g 4 _ (by omega) c4, g 5 _ (by omega) c5, g 6 _ (by omega) c6, trivial⟩)
      clear hbox htree hY hgrow hel hv hb0 hc hh hW2 h1c hid c0 c1 c2 c3 c4 c5 c6 e1 e2 e3 e4 e5 e6
      rw [hst]
      gi_wp2
      refine ⟨rfl, hR.mono ?_⟩
      rintro e W3 ⟨rfl, hJ3⟩
      gi_wp2
      go_roundw
      case rel => exact ⟨k + 1, by omega, by simp, hJ3⟩
      case measure => simp [Go.RowKit.intOf]; omega
    · obtain rfl : k = n := by omega
      gi_wp2
      go_end0
      exact ⟨⟨_, rfl⟩, hJs⟩
end Go.Hw
