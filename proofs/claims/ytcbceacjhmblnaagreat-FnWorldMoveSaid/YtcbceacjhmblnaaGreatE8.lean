/- What is proved here: parts W54, W55 of the walk of the law and of its plain side; no condition but those that each theorem states. -/
import Derived.Test.YtcbceacjhmblnaaGreatE7
import Derived.Test.YtcbceacjhmblnaaGreatE6
/- What is proved: what a chain that is worked on knows, sends, and what it relies on. -/
set_option linter.all false
set_option maxRecDepth 100000
set_option maxHeartbeats 4000000
namespace Go.Hw
open Go.Proofs
open Nat renaming reduceDiv → qa, reduceMod → qb, reduceAdd → qc, reduceMul → qd, reduceSub → qe, reduceLeDiff → qf, reduceBEq → qg, reduceEqDiff → qh, reduceBeqDiff → qi, reduceLT → qj
open Int renaming reduceToNat → qk, reduceAdd → ql, reduceSub → qm, reduceNeg → qn, reduceLT → qo, reduceLE → qp, reduceEq → qq, reduceBEq → qr, reduceBNe → qs
open Go.Hw renaming runG_split → gR, condG_split → gC, takG_split → gT, effG_split → gE
def pl_Index_no0 : Plan := (.tak 0 (.tak 1 (.tak 2 (.tak 3 (.tak 4 (.tak 5 (.tak 6 (.tak 7 (.tak 8 (.tak 9 (.tak 10 (.tak 11 (.tak 12 (.tak 13 (.tak 14 (.all (.cons 15 (.all (.cons 16 (.all (.cons 17 .done .nil)) .nil)) (.cons 16 (.all (.cons 15 (.all (.cons 17 .done .nil)) .nil)) .nil))))))))))))))))))
attribute [go_sem] pl_Index_no0
def pl_Index_no1 : Plan := (.tak 0 (.tak 1 (.tak 2 (.tak 3 (.tak 5 (.all (.cons 4 (.all (.cons 6 (.all (.cons 7 (.tak 8 (.tak 9 (.all (.cons 10 .done .nil)))) .nil)) .nil)) (.cons 6 (.all (.cons 4 (.all (.cons 7 (.tak 8 (.tak 9 (.all (.cons 10 .done .nil)))) .nil)) .nil)) .nil))))))))
attribute [go_sem] pl_Index_no1
theorem Index_no (l : List Int) (n : Int) (h1 : l.length ≤ 1000) (h : ∀ j, j < l.length → l.getD j 0 ≠ n) : Call Tryz.prog 120 [.c (.t (intsT l)), I n] [] 0 (.o (I (-1))) [] 0 := by
  refine CallX.of tok Tryz.func120 rfl rfl Tryz.ntmps120 Tryz.results120 rfl (by decide) (fun cx hnt hk0 => ?_)
  repeat' (first | refine AWp.seq fun K hK => ?_ | refine hK _ ?_; clear hK K | refine hX ?_; clear hX hY X Y | refine hY ?_; clear hX hY X Y | refine AWp.block ?_ | refine hL _ _ ?_ | ((first | refine AWp.region tok (by rw [hnt]; rfl) ?_ | refine AWp.cond' fun X Y hX hY => ?_ | refine AWp.skip ?_ | refine AWp.exit ?_ | refine AWp.ret ?_ | refine Fin.auto [] ?_ | ((first | apply gR | apply gC) <;> intro hq <;> (try simp only [nT, nF, n1, n0] at hq) <;> (have hb := hq) <;> (try simp only [dT, dF, eT, eF] at hb) <;> first | (exfalso; omega) | ((try simp only [hq]); clear hq))) <;> (try simp only [go_sem, qa, qb, qc, qd, qe, qf, qg, qh, qi, qj, qk, ql, qm, qn, qo, qp, qq, qr, qs, reduceIte, reduceCtorEq])) | refine Fits.of ?_ ?_ | (refine aL ?_ (fun hp => ?_) <;> ((try simp only [rowSet_fI hp, rowSet_fI2 hp]); (try simp only [rowSet_fB hp]))) | refine aE ?_ fun hp => ?_ | refine aC ?_ fun hp => ?_ | refine And.intro ?_ ?_ | clear hK K | clear hX hY X Y | clear hL L)
  refine AWp.loop (fun i : Nat => ⟨[(0, .o (.c (.t (intsT l)))), (1, .o (I n)), (7, .o (I l.length)), (8, .o (I i))], [], 0⟩) (fun i => i ≤ l.length) (fun i => l.length - i) 0 (Nat.zero_le _) ?_ ?_
  · refine SLe.auto hk0 [] ?_; simp only [go_sem, qa, qb, qc, qd, qe, qf, qg, qh, qi, qj, qk, ql, qm, qn, qo, qp, qq, qr, qs, reduceIte, reduceCtorEq]
    simp
  intro i hi
  by_cases hlt : i < l.length
  · have hne := h i hlt
    repeat' (first | refine AWp.seq fun K hK => ?_ | refine hK _ ?_; clear hK K | refine hX ?_; clear hX hY X Y | refine hY ?_; clear hX hY X Y | refine AWp.block ?_ | refine hL _ _ ?_ | ((first | refine AWp.region tok (by rw [hnt]; rfl) ?_ | refine AWp.cond' fun X Y hX hY => ?_ | refine AWp.skip ?_ | refine AWp.exit ?_ | refine AWp.ret ?_ | refine Fin.auto [] ?_ | refine SLe.auto hk0 [] ?_ | ((first | apply gR | apply gC) <;> intro hq <;> (try simp only [nT, nF, n1, n0] at hq) <;> (have hb := hq) <;> (try simp only [dT, dF, eT, eF] at hb) <;> first | (exfalso; omega) | ((try simp only [hq]); clear hq))) <;> (try simp only [go_sem, qa, qb, qc, qd, qe, qf, qg, qh, qi, qj, qk, ql, qm, qn, qo, qp, qq, qr, qs, reduceIte, reduceCtorEq])) | refine ⟨i + 1, ?_, ?_, ?_⟩ | refine Fits.of ?_ ?_ | (refine aL ?_ (fun hp => ?_) <;> ((try simp only [rowSet_fI hp, rowSet_fI2 hp]); (try simp only [rowSet_fB hp]))) | refine aE ?_ fun hp => ?_ | refine aC ?_ fun hp => ?_ | refine And.intro ?_ ?_ | clear hK K | clear hX hY X Y | clear hL L)
    all_goals try (first | omega | (simp only [decide_eq_true_eq, decide_eq_false_iff_not, decide_eq_decide]; omega))
    all_goals (exfalso; first | exact hne hb.symm | exact hne hb | omega)
  · repeat' (first | refine AWp.seq fun K hK => ?_ | refine hK _ ?_; clear hK K | refine hX ?_; clear hX hY X Y | refine hY ?_; clear hX hY X Y | refine AWp.block ?_ | refine hL _ _ ?_ | ((first | refine AWp.region tok (by rw [hnt]; rfl) ?_ | refine AWp.cond' fun X Y hX hY => ?_ | refine AWp.skip ?_ | refine AWp.exit ?_ | refine AWp.ret ?_ | refine Fin.auto [] ?_ | ((first | apply gR | apply gC) <;> intro hq <;> (try simp only [nT, nF, n1, n0] at hq) <;> (have hb := hq) <;> (try simp only [dT, dF, eT, eF] at hb) <;> first | (exfalso; omega) | ((try simp only [hq]); clear hq))) <;> (try simp only [go_sem, qa, qb, qc, qd, qe, qf, qg, qh, qi, qj, qk, ql, qm, qn, qo, qp, qq, qr, qs, reduceIte, reduceCtorEq])) | refine Fits.of ?_ ?_ | (refine aL ?_ (fun hp => ?_) <;> ((try simp only [rowSet_fI hp, rowSet_fI2 hp]); (try simp only [rowSet_fB hp]))) | refine aE ?_ fun hp => ?_ | refine aC ?_ fun hp => ?_ | refine And.intro ?_ ?_ | clear hK K | clear hX hY X Y | clear hL L)
    all_goals try omega
theorem Index_at (l : List Int) (n : Int) (k : Nat) (h1 : l.length ≤ 1000) (hk : k < l.length) (he : l.getD k 0 = n) (h : ∀ j, j < k → l.getD j 0 ≠ n) : Call Tryz.prog 120 [.c (.t (intsT l)), I n] [] 0 (.o (I k)) [] 0 := by
  refine CallX.of tok Tryz.func120 rfl rfl Tryz.ntmps120 Tryz.results120 rfl (by decide) (fun cx hnt hk0 => ?_)
  repeat' (first | refine AWp.seq fun K hK => ?_ | refine hK _ ?_; clear hK K | refine hX ?_; clear hX hY X Y | refine hY ?_; clear hX hY X Y | refine AWp.block ?_ | refine hL _ _ ?_ | ((first | refine AWp.region tok (by rw [hnt]; rfl) ?_ | refine AWp.cond' fun X Y hX hY => ?_ | refine AWp.skip ?_ | refine AWp.exit ?_ | refine AWp.ret ?_ | refine Fin.auto [] ?_ | ((first | apply gR | apply gC) <;> intro hq <;> (try simp only [nT, nF, n1, n0] at hq) <;> (have hb := hq) <;> (try simp only [dT, dF, eT, eF] at hb) <;> first | (exfalso; omega) | ((try simp only [hq]); clear hq))) <;> (try simp only [go_sem, qa, qb, qc, qd, qe, qf, qg, qh, qi, qj, qk, ql, qm, qn, qo, qp, qq, qr, qs, reduceIte, reduceCtorEq])) | refine Fits.of ?_ ?_ | (refine aL ?_ (fun hp => ?_) <;> ((try simp only [rowSet_fI hp, rowSet_fI2 hp]); (try simp only [rowSet_fB hp]))) | refine aE ?_ fun hp => ?_ | refine aC ?_ fun hp => ?_ | refine And.intro ?_ ?_ | clear hK K | clear hX hY X Y | clear hL L)
  refine AWp.loop (fun i : Nat => ⟨[(0, .o (.c (.t (intsT l)))), (1, .o (I n)), (7, .o (I l.length)), (8, .o (I i))], [], 0⟩) (fun i => i ≤ k) (fun i => l.length - i) 0 (Nat.zero_le _) ?_ ?_
  · refine SLe.auto hk0 [] ?_; simp only [go_sem, qa, qb, qc, qd, qe, qf, qg, qh, qi, qj, qk, ql, qm, qn, qo, qp, qq, qr, qs, reduceIte, reduceCtorEq]
    simp
  intro i hi
  by_cases hlt : i = k
  · subst hlt
    repeat' (first | refine AWp.seq fun K hK => ?_ | refine hK _ ?_; clear hK K | refine hX ?_; clear hX hY X Y | refine hY ?_; clear hX hY X Y | refine AWp.block ?_ | refine hL _ _ ?_ | ((first | refine AWp.region tok (by rw [hnt]; rfl) ?_ | refine AWp.cond' fun X Y hX hY => ?_ | refine AWp.skip ?_ | refine AWp.exit ?_ | refine AWp.ret ?_ | refine Fin.auto [] ?_ | ((first | apply gR | apply gC) <;> intro hq <;> (try simp only [nT, nF, n1, n0] at hq) <;> (have hb := hq) <;> (try simp only [dT, dF, eT, eF] at hb) <;> first | (exfalso; omega) | ((try simp only [hq]); clear hq))) <;> (try simp only [go_sem, qa, qb, qc, qd, qe, qf, qg, qh, qi, qj, qk, ql, qm, qn, qo, qp, qq, qr, qs, reduceIte, reduceCtorEq, he])) | refine Fits.of ?_ ?_ | (refine aL ?_ (fun hp => ?_) <;> ((try simp only [rowSet_fI hp, rowSet_fI2 hp]); (try simp only [rowSet_fB hp]))) | refine aE ?_ fun hp => ?_ | refine aC ?_ fun hp => ?_ | refine And.intro ?_ ?_ | clear hK K | clear hX hY X Y | clear hL L)
    all_goals try omega
  · have hne := h i (by omega)
    repeat' (first | refine AWp.seq fun K hK => ?_ | refine hK _ ?_; clear hK K | refine hX ?_; clear hX hY X Y | refine hY ?_; clear hX hY X Y | refine AWp.block ?_ | refine hL _ _ ?_ | ((first | refine AWp.region tok (by rw [hnt]; rfl) ?_ | refine AWp.cond' fun X Y hX hY => ?_ | refine AWp.skip ?_ | refine AWp.exit ?_ | refine AWp.ret ?_ | refine Fin.auto [] ?_ | refine SLe.auto hk0 [] ?_ | ((first | apply gR | apply gC) <;> intro hq <;> (try simp only [nT, nF, n1, n0] at hq) <;> (have hb := hq) <;> (try simp only [dT, dF, eT, eF] at hb) <;> first | (exfalso; omega) | ((try simp only [hq]); clear hq))) <;> (try simp only [go_sem, qa, qb, qc, qd, qe, qf, qg, qh, qi, qj, qk, ql, qm, qn, qo, qp, qq, qr, qs, reduceIte, reduceCtorEq])) | refine ⟨i + 1, ?_, ?_, ?_⟩ | refine Fits.of ?_ ?_ | (refine aL ?_ (fun hp => ?_) <;> ((try simp only [rowSet_fI hp, rowSet_fI2 hp]); (try simp only [rowSet_fB hp]))) | refine aE ?_ fun hp => ?_ | refine aC ?_ fun hp => ?_ | refine And.intro ?_ ?_ | clear hK K | clear hX hY X Y | clear hL L)
    all_goals try (first | omega | (simp only [decide_eq_true_eq, decide_eq_false_iff_not, decide_eq_decide]; omega))
    all_goals (exfalso; first | exact hne hb.symm | exact hne hb | omega)
theorem Contains_ok (l : List Int) (n : Int) (h1 : l.length ≤ 1000) : Call Tryz.prog 89 [.c (.t (intsT l)), I n] [] 0 (.o (BB (l.contains n))) [] 0 := by
  by_cases h : ∀ j, j < l.length → l.getD j 0 ≠ n
  · rw [contains_false h]
    refine CallX.of tok Tryz.func89 rfl rfl Tryz.ntmps89 Tryz.results89 rfl (by decide) (fun cx hnt hk0 => ?_)
    repeat' (first | refine AWp.seq fun K hK => ?_ | refine hK _ ?_; clear hK K | refine hX ?_; clear hX hY X Y | refine hY ?_; clear hX hY X Y | refine AWp.block ?_ | refine hL _ _ ?_ | ((first | refine AWp.region tok (by rw [hnt]; rfl) ?_ | refine AWp.cond' fun X Y hX hY => ?_ | refine AWp.skip ?_ | refine AWp.exit ?_ | refine AWp.ret ?_ | refine Fin.auto [] ?_ | refine runS_c [] (Index_no l n h1 h) rfl ?_ ?_ ?_ | ((first | apply gR | apply gC) <;> intro hq <;> (try simp only [nT, nF, n1, n0] at hq) <;> (have hb := hq) <;> (try simp only [dT, dF, eT, eF] at hb) <;> first | (exfalso; omega) | ((try simp only [hq]); clear hq))) <;> (try simp only [go_sem, qa, qb, qc, qd, qe, qf, qg, qh, qi, qj, qk, ql, qm, qn, qo, qp, qq, qr, qs, reduceIte, reduceCtorEq])) | refine Fits.of ?_ ?_ | (refine aL ?_ (fun hp => ?_) <;> ((try simp only [rowSet_fI hp, rowSet_fI2 hp]); (try simp only [rowSet_fB hp]))) | refine aE ?_ fun hp => ?_ | refine aC ?_ fun hp => ?_ | refine And.intro ?_ ?_ | clear hK K | clear hX hY X Y | clear hL L)
  · obtain ⟨k, hk, hmin⟩ := least (p := fun k => k < l.length ∧ l.getD k 0 = n) (Classical.byContradiction fun hno => h fun j hj e => hno ⟨j, hj, e⟩)
    rw [contains_true hk.1 hk.2]
    have hI := Index_at l n k h1 hk.1 hk.2 (fun j hj e => by have := hmin j ⟨by omega, e⟩; omega)
    refine CallX.of tok Tryz.func89 rfl rfl Tryz.ntmps89 Tryz.results89 rfl (by decide) (fun cx hnt hk0 => ?_)
    repeat' (first | refine AWp.seq fun K hK => ?_ | refine hK _ ?_; clear hK K | refine hX ?_; clear hX hY X Y | refine hY ?_; clear hX hY X Y | refine AWp.block ?_ | refine hL _ _ ?_ | ((first | refine AWp.region tok (by rw [hnt]; rfl) ?_ | refine AWp.cond' fun X Y hX hY => ?_ | refine AWp.skip ?_ | refine AWp.exit ?_ | refine AWp.ret ?_ | refine Fin.auto [] ?_ | refine runS_c [] (hI) rfl ?_ ?_ ?_ | ((first | apply gR | apply gC) <;> intro hq <;> (try simp only [nT, nF, n1, n0] at hq) <;> (have hb := hq) <;> (try simp only [dT, dF, eT, eF] at hb) <;> first | (exfalso; omega) | ((try simp only [hq]); clear hq))) <;> (try simp only [go_sem, qa, qb, qc, qd, qe, qf, qg, qh, qi, qj, qk, ql, qm, qn, qo, qp, qq, qr, qs, reduceIte, reduceCtorEq])) | refine Fits.of ?_ ?_ | (refine aL ?_ (fun hp => ?_) <;> ((try simp only [rowSet_fI hp, rowSet_fI2 hp]); (try simp only [rowSet_fB hp]))) | refine aE ?_ fun hp => ?_ | refine aC ?_ fun hp => ?_ | refine And.intro ?_ ?_ | clear hK K | clear hX hY X Y | clear hL L)
    all_goals simp
theorem split_take {l : List Int} {h : Int} (hp : l.Pairwise (· < ·)) (hn : h ∉ l) : l.take (l.countP (· < h)) = l.filter (fun x => decide (x < h)) ∧ l.drop (l.countP (· < h)) = l.filter (fun x => decide (h < x)) := by
  induction l with
  | nil => simp
  | cons a r ih =>
    rw [List.pairwise_cons] at hp
    simp only [List.mem_cons, not_or] at hn
    obtain ⟨i1, i2⟩ := ih hp.2 hn.2
    by_cases ha : a < h
    · have ha' : ¬ h < a := by omega
      simp [ha, ha', i1, i2]
    · have hc : r.countP (· < h) = 0 := by
        rw [List.countP_eq_zero]
        intro x hx; have := hp.1 x hx; simp; omega
      have hg : ∀ x ∈ r, h < x := fun x hx => by have := hp.1 x hx; omega
      have ha' : h < a := by omega
      have f1 : r.filter (fun x => decide (x < h)) = [] := by
        rw [List.filter_eq_nil_iff]; intro x hx; have := hg x hx; simp; omega
      have f2 : r.filter (fun x => decide (h < x)) = r := by
        rw [List.filter_eq_self]; intro x hx; simpa using hg x hx
      simp [ha, ha', hc, f1, f2]
theorem iknow_ok (c o : Chain) (h : Int) (hc : c.ok = true) (hp : (o.past.length : Int) < 1000) : Call Tryz.prog 60 [.c (.ptr 0 0 0 0), .c (.ptr 8 0 0 0), I h] (linkH c 0 1 ++ [(8, .box (linkA o 9))]) 16 (.tup []) (linkH (c.know o h) 0 16 ++ [(8, .box (linkA o 9))]) 23 := by
  obtain ⟨q1, q2, q3, q4, q5, q6⟩ := chain_ok hc
  have q7 := knows_len q6
  have q8 := (knows_iff.1 q6).2
  have q9 : c.knows.Pairwise (· ≤ ·) := q8.imp (fun h => by omega)
  have cB := BinarySearch_ok c.knows h (by omega) q9
  unfold Chain.know Chain.knowB
  by_cases hin : In h 1 o.past.length = true
  · have hin' := hin
    rw [In_iff] at hin'
    cases hk : c.knows.contains h
    · rw [hk] at cB
      have hn : h ∉ c.knows := by simpa using hk
      have hcn : c.knows.countP (· < h) ≤ c.knows.length := List.countP_le_length
      have cI := Insert_ok c.knows h (c.knows.countP (· < h)) hcn (by omega)
      rw [(split_take q8 hn).1, (split_take q8 hn).2] at cI
      have hlen : (c.knows.filter (fun x => decide (x < h)) ++ h :: c.knows.filter (fun x => decide (h < x))).length = c.knows.length + 1 := by
        rw [← (split_take q8 hn).1, ← (split_take q8 hn).2]; simp; omega
      rw [hin]
      refine CallX.of tok Tryz.func60 rfl rfl Tryz.ntmps60 Tryz.results60 rfl (by decide) (fun cx hnt hk0 => ?_)
      repeat' (first | refine AWp.seq fun K hK => ?_ | refine hK _ ?_; clear hK K | refine hX ?_; clear hX hY X Y | refine hY ?_; clear hX hY X Y | refine AWp.block ?_ | refine hL _ _ ?_ | ((first | refine AWp.region tok (by rw [hnt]; rfl) ?_ | refine AWp.cond' fun X Y hX hY => ?_ | refine AWp.skip ?_ | refine AWp.exit ?_ | refine AWp.ret ?_ | refine Fin.auto [] ?_ | refine runS_c [7] (cB) rfl ?_ ?_ ?_ | refine runS_c [7, 16] (cI) rfl ?_ ?_ ?_ | ((first | apply gR | apply gC) <;> intro hq <;> (try simp only [nT, nF, n1, n0] at hq) <;> (have hb := hq) <;> (try simp only [dT, dF, eT, eF] at hb) <;> first | (exfalso; omega) | ((try simp only [hq]); clear hq))) <;> (try simp only [go_sem, qa, qb, qc, qd, qe, qf, qg, qh, qi, qj, qk, ql, qm, qn, qo, qp, qq, qr, qs, reduceIte, reduceCtorEq, Bool.not_false, Bool.and_true, if_true, hlen])) | refine Fits.of ?_ ?_ | (refine aL ?_ (fun hp => ?_) <;> ((try simp only [rowSet_fI hp, rowSet_fI2 hp]); (try simp only [rowSet_fB hp]))) | refine aE ?_ fun hp => ?_ | refine aC ?_ fun hp => ?_ | refine And.intro ?_ ?_ | clear hK K | clear hX hY X Y | clear hL L)
      all_goals try omega
    · rw [hk] at cB
      rw [hin]
      refine CallX.of tok Tryz.func60 rfl rfl Tryz.ntmps60 Tryz.results60 rfl (by decide) (fun cx hnt hk0 => ?_)
      repeat' (first | refine AWp.seq fun K hK => ?_ | refine hK _ ?_; clear hK K | refine hX ?_; clear hX hY X Y | refine hY ?_; clear hX hY X Y | refine AWp.block ?_ | refine hL _ _ ?_ | ((first | refine AWp.region tok (by rw [hnt]; rfl) ?_ | refine AWp.cond' fun X Y hX hY => ?_ | refine AWp.skip ?_ | refine AWp.exit ?_ | refine AWp.ret ?_ | refine Fin.auto [] ?_ | refine runS_c [7] (cB) rfl ?_ ?_ ?_ | ((first | apply gR | apply gC) <;> intro hq <;> (try simp only [nT, nF, n1, n0] at hq) <;> (have hb := hq) <;> (try simp only [dT, dF, eT, eF] at hb) <;> first | (exfalso; omega) | ((try simp only [hq]); clear hq))) <;> (try simp only [go_sem, qa, qb, qc, qd, qe, qf, qg, qh, qi, qj, qk, ql, qm, qn, qo, qp, qq, qr, qs, reduceIte, reduceCtorEq, Bool.not_true, Bool.and_false, Bool.false_eq_true, if_false])) | refine Fits.of ?_ ?_ | (refine aL ?_ (fun hp => ?_) <;> ((try simp only [rowSet_fI hp, rowSet_fI2 hp]); (try simp only [rowSet_fB hp]))) | refine aE ?_ fun hp => ?_ | refine aC ?_ fun hp => ?_ | refine And.intro ?_ ?_ | clear hK K | clear hX hY X Y | clear hL L)
      all_goals try omega
  · have hin2 : In h 1 o.past.length = false := by simpa using hin
    rw [In_iff] at hin
    rw [hin2]
    refine CallX.of tok Tryz.func60 rfl rfl Tryz.ntmps60 Tryz.results60 rfl (by decide) (fun cx hnt hk0 => ?_)
    repeat' (first | refine AWp.seq fun K hK => ?_ | refine hK _ ?_; clear hK K | refine hX ?_; clear hX hY X Y | refine hY ?_; clear hX hY X Y | refine AWp.block ?_ | refine hL _ _ ?_ | ((first | refine AWp.region tok (by rw [hnt]; rfl) ?_ | refine AWp.cond' fun X Y hX hY => ?_ | refine AWp.skip ?_ | refine AWp.exit ?_ | refine AWp.ret ?_ | refine Fin.auto [] ?_ | ((first | apply gR | apply gC) <;> intro hq <;> (try simp only [nT, nF, n1, n0] at hq) <;> (have hb := hq) <;> (try simp only [dT, dF, eT, eF] at hb) <;> first | (exfalso; omega) | ((try simp only [hq]); clear hq))) <;> (try simp only [go_sem, qa, qb, qc, qd, qe, qf, qg, qh, qi, qj, qk, ql, qm, qn, qo, qp, qq, qr, qs, reduceIte, reduceCtorEq, Bool.false_and, Bool.false_eq_true, if_false])) | refine Fits.of ?_ ?_ | (refine aL ?_ (fun hp => ?_) <;> ((try simp only [rowSet_fI hp, rowSet_fI2 hp]); (try simp only [rowSet_fB hp]))) | refine aE ?_ fun hp => ?_ | refine aC ?_ fun hp => ?_ | refine And.intro ?_ ?_ | clear hK K | clear hX hY X Y | clear hL L)
    all_goals try omega
theorem isend_ok (c : Chain) (kind src dst sum till : Int) (hc : c.ok = true) : Call Tryz.prog 61 [.c (.ptr 0 0 0 0), I kind, I src, I dst, I sum, I till] (linkH c 0 1) 8 (.tup [I (if c.sendB kind src dst sum till then (c.state.sent.length : Int) + 1 else 0), BB (c.sendB kind src dst sum till)]) (linkH (c.send kind src dst sum till) 0 8) 15 := by
  obtain ⟨q1, q2, q3, q4, q5, q6⟩ := chain_ok hc
  obtain ⟨r1, r2, r3, r4, r5, r6, r7, r8, r9⟩ := state_ok q3
  obtain ⟨b1, b2, b3, b4, b5⟩ := bank_ok q2
  have b6 := parts_len b1
  have b7 := parts_len b2
  have b8 := parts_all b1
  unfold Chain.send
  have ep : (⟨(c.state.sent.length : Int) + 1, kind, src, dst, sum, till, c.state.ver⟩ : Packet) = c.packet kind src dst sum till := rfl
  have cP := iPacketOk_ok (c.packet kind src dst sum till)
  by_cases hw : c.state.way = 3
  · cases hp : (c.packet kind src dst sum till).ok
    · have hB : c.sendB kind src dst sum till = false := by simp [Chain.sendB, hp]
      rw [hB]
      rw [hp] at cP
      refine CallX.of tok Tryz.func61 rfl rfl Tryz.ntmps61 Tryz.results61 rfl (by decide) (fun cx hnt hk0 => ?_)
      
      repeat' (first | refine AWp.seq fun K hK => ?_ | refine hK _ ?_; clear hK K | refine hX ?_; clear hX hY X Y | refine hY ?_; clear hX hY X Y | refine AWp.block ?_ | refine hL _ _ ?_ | ((first | refine AWp.region tok (by rw [hnt]; rfl) ?_ | refine AWp.cond' fun X Y hX hY => ?_ | refine AWp.skip ?_ | refine AWp.exit ?_ | refine AWp.ret ?_ | refine Fin.auto [] ?_ | refine runS_c [] (cP) rfl ?_ ?_ ?_ | refine AWp.draw (id := 2) tok mixed pl_Index_no0 [0] [1, 2, 3, 4, 5, 14] (by kernel_rfl) (by kernel_rfl) (by rw [hnt]; rfl) ?_ | refine AWp.draw (id := 9) tok mixed pl_Index_no1 [0] [14, 15] (by kernel_rfl) (by kernel_rfl) (by rw [hnt]; rfl) ?_ | refine effS_c [] (cP) rfl ?_ ?_ ?_ | ((first | apply gR | apply gC | apply gT | apply gE) <;> intro hq <;> (try simp only [nT, nF, n1, n0] at hq) <;> (have hb := hq) <;> (try simp only [dT, dF, eT, eF] at hb) <;> first | (exfalso; omega) | ((try simp only [hq]); clear hq))) <;> (try simp only [go_sem, qa, qb, qc, qd, qe, qf, qg, qh, qi, qj, qk, ql, qm, qn, qo, qp, qq, qr, qs, reduceIte, reduceCtorEq, Bool.false_eq_true, if_false])) | refine Fits.of ?_ ?_ | (refine aL ?_ (fun hp => ?_) <;> ((try simp only [rowSet_fI hp, rowSet_fI2 hp]); (try simp only [rowSet_fB hp]))) | refine aE ?_ fun hp => ?_ | refine aC ?_ fun hp => ?_ | refine And.intro ?_ ?_ | clear hK K | clear hX hY X Y | clear hL L)
      all_goals try omega
    · rw [hp] at cP
      obtain ⟨a1, a2, a3, a4, a5, a6, a7⟩ := packet_iff.1 hp
      simp only [Chain.packet] at a1 a2 a3 a4 a5 a6 a7
      have hg : c.bank.takeB kind src sum = c.bank.awayB kind src sum := by
        unfold Bank.takeB
        rw [q2, In_iff.2 a2, In_iff.2 a3, decide_eq_true (show 0 ≤ sum by omega)]
        rfl
      have hB : c.sendB kind src dst sum till = c.bank.awayB kind src sum := by simp [Chain.sendB, hp, hw]
      rw [hB]
      cases hA : c.bank.awayB kind src sum
      · rw [hA] at hg
        refine CallX.of tok Tryz.func61 rfl rfl Tryz.ntmps61 Tryz.results61 rfl (by decide) (fun cx hnt hk0 => ?_)
        
        repeat' (first | refine AWp.seq fun K hK => ?_ | refine hK _ ?_; clear hK K | refine hX ?_; clear hX hY X Y | refine hY ?_; clear hX hY X Y | refine AWp.block ?_ | refine hL _ _ ?_ | ((first | refine AWp.region tok (by rw [hnt]; rfl) ?_ | refine AWp.cond' fun X Y hX hY => ?_ | refine AWp.skip ?_ | refine AWp.exit ?_ | refine AWp.ret ?_ | refine Fin.auto [] ?_ | refine runS_c [] (cP) rfl ?_ ?_ ?_ | refine runS_v [] (iBankAway_no c.bank kind src sum (by omega) (by omega) (by omega) hg) ?_ ?_ ?_ ?_ ?_ | refine AWp.draw (id := 2) tok mixed pl_Index_no0 [0] [1, 2, 3, 4, 5, 14] (by kernel_rfl) (by kernel_rfl) (by rw [hnt]; rfl) ?_ | refine AWp.draw (id := 9) tok mixed pl_Index_no1 [0] [14, 15] (by kernel_rfl) (by kernel_rfl) (by rw [hnt]; rfl) ?_ | refine effS_c [] (cP) rfl ?_ ?_ ?_ | refine effS_v [] (iBankAway_no c.bank kind src sum (by omega) (by omega) (by omega) hg) ?_ ?_ ?_ ?_ ?_ | ((first | apply gR | apply gC | apply gT | apply gE) <;> intro hq <;> (try simp only [nT, nF, n1, n0] at hq) <;> (have hb := hq) <;> (try simp only [dT, dF, eT, eF] at hb) <;> first | (exfalso; omega) | ((try simp only [hq]); clear hq))) <;> (try simp only [go_sem, qa, qb, qc, qd, qe, qf, qg, qh, qi, qj, qk, ql, qm, qn, qo, qp, qq, qr, qs, reduceIte, reduceCtorEq, Bool.false_eq_true, if_false])) | refine Fits.of ?_ ?_ | (refine aL ?_ (fun hp => ?_) <;> ((try simp only [rowSet_fI hp, rowSet_fI2 hp]); (try simp only [rowSet_fB hp]))) | refine aE ?_ fun hp => ?_ | refine aC ?_ fun hp => ?_ | refine And.intro ?_ ?_ | clear hK K | clear hX hY X Y | clear hL L)
        all_goals try omega
      · rw [hA] at hg
        unfold Chain.sendD
        refine CallX.of tok Tryz.func61 rfl rfl Tryz.ntmps61 Tryz.results61 rfl (by decide) (fun cx hnt hk0 => ?_)
        
        repeat' (first | refine AWp.seq fun K hK => ?_ | refine hK _ ?_; clear hK K | refine hX ?_; clear hX hY X Y | refine hY ?_; clear hX hY X Y | refine AWp.block ?_ | refine hL _ _ ?_ | ((first | refine AWp.region tok (by rw [hnt]; rfl) ?_ | refine AWp.cond' fun X Y hX hY => ?_ | refine AWp.skip ?_ | refine AWp.exit ?_ | refine AWp.ret ?_ | refine Fin.auto [] ?_ | refine runS_c [] (cP) rfl ?_ ?_ ?_ | refine runS_v [] (iBankAway_yes c.bank kind src sum (by omega) (by omega) (by omega) hg) ?_ ?_ ?_ ?_ ?_ | refine AWp.draw (id := 2) tok mixed pl_Index_no0 [0] [1, 2, 3, 4, 5, 14] (by kernel_rfl) (by kernel_rfl) (by rw [hnt]; rfl) ?_ | refine AWp.draw (id := 9) tok mixed pl_Index_no1 [8] [14, 15] (by kernel_rfl) (by kernel_rfl) (by rw [hnt]; rfl) ?_ | refine effS_c [] (cP) rfl ?_ ?_ ?_ | refine effS_v [] (iBankAway_yes c.bank kind src sum (by omega) (by omega) (by omega) hg) ?_ ?_ ?_ ?_ ?_ | ((first | apply gR | apply gC | apply gT | apply gE) <;> intro hq <;> (try simp only [nT, nF, n1, n0] at hq) <;> (have hb := hq) <;> (try simp only [dT, dF, eT, eF] at hb) <;> first | (exfalso; omega) | ((try simp only [hq]); clear hq))) <;> (try simp only [go_sem, qa, qb, qc, qd, qe, qf, qg, qh, qi, qj, qk, ql, qm, qn, qo, qp, qq, qr, qs, reduceIte, reduceCtorEq, if_true, ep])) | refine Fits.of ?_ ?_ | (refine aL ?_ (fun hp => ?_) <;> ((try simp only [rowSet_fI hp, rowSet_fI2 hp]); (try simp only [rowSet_fB hp]))) | refine aE ?_ fun hp => ?_ | refine aC ?_ fun hp => ?_ | refine And.intro ?_ ?_ | clear hK K | clear hX hY X Y | clear hL L)
        all_goals try omega
  · have hB : c.sendB kind src dst sum till = false := by simp [Chain.sendB, hw]
    rw [hB]
    refine CallX.of tok Tryz.func61 rfl rfl Tryz.ntmps61 Tryz.results61 rfl (by decide) (fun cx hnt hk0 => ?_)
    
    repeat' (first | refine AWp.seq fun K hK => ?_ | refine hK _ ?_; clear hK K | refine hX ?_; clear hX hY X Y | refine hY ?_; clear hX hY X Y | refine AWp.block ?_ | refine hL _ _ ?_ | ((first | refine AWp.region tok (by rw [hnt]; rfl) ?_ | refine AWp.cond' fun X Y hX hY => ?_ | refine AWp.skip ?_ | refine AWp.exit ?_ | refine AWp.ret ?_ | refine Fin.auto [] ?_ | refine AWp.draw (id := 2) tok mixed pl_Index_no0 [0] [1, 2, 3, 4, 5, 14] (by kernel_rfl) (by kernel_rfl) (by rw [hnt]; rfl) ?_ | refine AWp.draw (id := 9) tok mixed pl_Index_no1 [0] [14, 15] (by kernel_rfl) (by kernel_rfl) (by rw [hnt]; rfl) ?_ | ((first | apply gR | apply gC | apply gT | apply gE) <;> intro hq <;> (try simp only [nT, nF, n1, n0] at hq) <;> (have hb := hq) <;> (try simp only [dT, dF, eT, eF] at hb) <;> first | (exfalso; omega) | ((try simp only [hq]); clear hq))) <;> (try simp only [go_sem, qa, qb, qc, qd, qe, qf, qg, qh, qi, qj, qk, ql, qm, qn, qo, qp, qq, qr, qs, reduceIte, reduceCtorEq, Bool.false_eq_true, if_false])) | refine Fits.of ?_ ?_ | (refine aL ?_ (fun hp => ?_) <;> ((try simp only [rowSet_fI hp, rowSet_fI2 hp]); (try simp only [rowSet_fB hp]))) | refine aE ?_ fun hp => ?_ | refine aC ?_ fun hp => ?_ | refine And.intro ?_ ?_ | clear hK K | clear hX hY X Y | clear hL L)
    all_goals try omega
def proofNone : A1 := .g [ci 0, ci 0, ci 0, .t (.v (.slice none 0 0)), .t (.v (.slice none 0 0)), .t (.v (.slice none 0 0)), .t (.v (.slice none 0 0)), ci 0]
theorem proofFor_new (c o : Chain) (e : Event) (hk : e.kind = 7) (hn : e.n = 1 ∨ e.n = 5) : Call Tryz.prog 63 [.c (.ptr 0 0 0 0), .c (.ptr 8 0 0 0), e.av] (linkH c 0 1 ++ linkH o 8 9) 16 (.tup [proofA State.new 0, BB true]) (linkH c 0 1 ++ linkH o 8 9) 16 := by
  refine CallX.of tok Tryz.func63 rfl rfl Tryz.ntmps63 Tryz.results63 rfl (by decide) (fun cx hnt hk0 => ?_)
  
  repeat' (first | refine AWp.seq fun K hK => ?_ | refine hK _ ?_; clear hK K | refine hX ?_; clear hX hY X Y | refine hY ?_; clear hX hY X Y | refine AWp.block ?_ | refine hL _ _ ?_ | ((first | refine AWp.region tok (by rw [hnt]; rfl) ?_ | refine AWp.cond' fun X Y hX hY => ?_ | refine AWp.skip ?_ | refine AWp.exit ?_ | refine AWp.ret ?_ | refine Fin.auto [18, 19, 20, 21] ?_ | refine runS_c [] (iStateNew_ok) rfl ?_ ?_ ?_ | refine AWp.draw (id := 3) tok mixed (.tak 0 (.tak 1 (.tak 2 (.tak 3 (.tak 4 (.tak 5 (.all (.cons 6 (.tak 7 .done) .nil)))))))) [] [0, 5] (by kernel_rfl) (by kernel_rfl) (by rw [hnt]; rfl) ?_ | refine effS_c [] (iStateNew_ok) rfl ?_ ?_ ?_ | ((first | apply gR | apply gC | apply gT | apply gE) <;> intro hq <;> (try simp only [nT, nF, n1, n0] at hq) <;> (have hb := hq) <;> (try simp only [dT, dF, eT, eF] at hb) <;> first | (exfalso; omega) | ((try simp only [hq]); clear hq))) <;> (try simp only [go_sem, qa, qb, qc, qd, qe, qf, qg, qh, qi, qj, qk, ql, qm, qn, qo, qp, qq, qr, qs, reduceIte, reduceCtorEq, State.new])) | refine Fits.of ?_ ?_ | (refine aL ?_ (fun hp => ?_) <;> ((try simp only [rowSet_fI hp, rowSet_fI2 hp]); (try simp only [rowSet_fB hp]))) | refine aE ?_ fun hp => ?_ | refine aC ?_ fun hp => ?_ | refine And.intro ?_ ?_ | clear hK K | clear hX hY X Y | clear hL L)
  all_goals try omega
theorem proofFor_no (c o : Chain) (e : Event) (hk : ¬ (e.kind = 7 ∧ (e.n = 1 ∨ e.n = 5))) (hl : c.knows.length ≤ 1000) (hc : c.knows.contains e.height = false) : Call Tryz.prog 63 [.c (.ptr 0 0 0 0), .c (.ptr 8 0 0 0), e.av] (linkH c 0 1 ++ linkH o 8 9) 16 (.tup [proofNone, BB false]) (linkH c 0 1 ++ linkH o 8 9) 16 := by
  have cC := Contains_ok c.knows e.height hl
  rw [hc] at cC
  refine CallX.of tok Tryz.func63 rfl rfl Tryz.ntmps63 Tryz.results63 rfl (by decide) (fun cx hnt hk0 => ?_)
  
  repeat' (first | refine AWp.seq fun K hK => ?_ | refine hK _ ?_; clear hK K | refine hX ?_; clear hX hY X Y | refine hY ?_; clear hX hY X Y | refine AWp.block ?_ | refine hL _ _ ?_ | ((first | refine AWp.region tok (by rw [hnt]; rfl) ?_ | refine AWp.cond' fun X Y hX hY => ?_ | refine AWp.skip ?_ | refine AWp.exit ?_ | refine AWp.ret ?_ | refine Fin.auto [] ?_ | refine runS_v [] (cC) ?_ ?_ ?_ ?_ ?_ | refine AWp.draw (id := 3) tok mixed (.tak 0 (.tak 1 (.tak 2 (.tak 3 (.tak 4 (.tak 5 (.all (.cons 6 (.tak 7 .done) .nil)))))))) [0, 16] [0, 5] (by kernel_rfl) (by kernel_rfl) (by rw [hnt]; rfl) ?_ | refine effS_v [] (cC) ?_ ?_ ?_ ?_ ?_ | ((first | apply gR | apply gC | apply gT | apply gE) <;> intro hq <;> (try simp only [nT, nF, n1, n0] at hq) <;> (have hb := hq) <;> (try simp only [dT, dF, eT, eF] at hb) <;> first | (exfalso; omega) | ((try simp only [hq]); clear hq))) <;> (try simp only [go_sem, qa, qb, qc, qd, qe, qf, qg, qh, qi, qj, qk, ql, qm, qn, qo, qp, qq, qr, qs, reduceIte, reduceCtorEq, proofNone])) | refine Fits.of ?_ ?_ | (refine aL ?_ (fun hp => ?_) <;> ((try simp only [rowSet_fI hp, rowSet_fI2 hp]); (try simp only [rowSet_fB hp]))) | refine aE ?_ fun hp => ?_ | refine aC ?_ fun hp => ?_ | refine And.intro ?_ ?_ | clear hK K | clear hX hY X Y | clear hL L)
  all_goals try omega
theorem proofFor_yes (c o : Chain) (e : Event) (hk : ¬ (e.kind = 7 ∧ (e.n = 1 ∨ e.n = 5))) (hl : c.knows.length ≤ 1000) (hc : c.knows.contains e.height = true) (h1 : 1 ≤ e.height) (h2 : e.height ≤ o.past.length) (hp : (o.past.length : Int) < 1000) : Call Tryz.prog 63 [.c (.ptr 0 0 0 0), .c (.ptr 8 0 0 0), e.av] (linkH c 0 1 ++ linkH o 8 9) 16 (.tup [proofA (o.at e.height) e.height, BB true]) (linkH c 0 1 ++ linkH o 8 9) 16 := by
  have cC := Contains_ok c.knows e.height hl
  rw [hc] at cC
  refine CallX.of tok Tryz.func63 rfl rfl Tryz.ntmps63 Tryz.results63 rfl (by decide) (fun cx hnt hk0 => ?_)
  
  repeat' (first | refine AWp.seq fun K hK => ?_ | refine hK _ ?_; clear hK K | refine hX ?_; clear hX hY X Y | refine hY ?_; clear hX hY X Y | refine AWp.block ?_ | refine hL _ _ ?_ | ((first | refine AWp.region tok (by rw [hnt]; rfl) ?_ | refine AWp.cond' fun X Y hX hY => ?_ | refine AWp.skip ?_ | refine AWp.exit ?_ | refine AWp.ret ?_ | refine Fin.auto [] ?_ | refine runS_v [] (cC) ?_ ?_ ?_ ?_ ?_ | refine runS_c [8, 9, 10, 11, 12, 13, 14, 15] (at_yes o e.height h1 h2 hp) rfl ?_ ?_ ?_ | refine AWp.draw (id := 3) tok mixed (.tak 0 (.tak 1 (.tak 2 (.tak 3 (.tak 4 (.tak 5 (.all (.cons 6 (.tak 7 .done) .nil)))))))) [0, 16] [0, 5] (by kernel_rfl) (by kernel_rfl) (by rw [hnt]; rfl) ?_ | refine effS_v [] (cC) ?_ ?_ ?_ ?_ ?_ | refine effS_c [8, 9, 10, 11, 12, 13, 14, 15] (at_yes o e.height h1 h2 hp) rfl ?_ ?_ ?_ | ((first | apply gR | apply gC | apply gT | apply gE) <;> intro hq <;> (try simp only [nT, nF, n1, n0] at hq) <;> (have hb := hq) <;> (try simp only [dT, dF, eT, eF] at hb) <;> first | (exfalso; omega) | ((try simp only [hq]); clear hq))) <;> (try simp only [go_sem, qa, qb, qc, qd, qe, qf, qg, qh, qi, qj, qk, ql, qm, qn, qo, qp, qq, qr, qs, reduceIte, reduceCtorEq])) | refine Fits.of ?_ ?_ | (refine aL ?_ (fun hp => ?_) <;> ((try simp only [rowSet_fI hp, rowSet_fI2 hp]); (try simp only [rowSet_fB hp]))) | refine aE ?_ fun hp => ?_ | refine aC ?_ fun hp => ?_ | refine And.intro ?_ ?_ | clear hK K | clear hX hY X Y | clear hL L)
  all_goals try omega
end Go.Hw
/- What is proved: what is relayed to a chain, and the ends of a run. -/
set_option linter.all false
set_option maxRecDepth 100000
set_option maxHeartbeats 8000000
namespace Go.Hw
open Go.Proofs
open Nat renaming reduceDiv → qa, reduceMod → qb, reduceAdd → qc, reduceMul → qd, reduceSub → qe, reduceLeDiff → qf, reduceBEq → qg, reduceEqDiff → qh, reduceBeqDiff → qi, reduceLT → qj
open Int renaming reduceToNat → qk, reduceAdd → ql, reduceSub → qm, reduceNeg → qn, reduceLT → qo, reduceLE → qp, reduceEq → qq, reduceBEq → qr, reduceBNe → qs
open Go.Hw renaming runG_split → gR, condG_split → gC, takG_split → gT, effG_split → gE
def pl_relay_ok0 : Plan := (.tak 0 (.tak 1 (.tak 2 (.tak 3 (.tak 4 (.tak 5 (.tak 6 (.tak 7 (.tak 8 (.tak 9 (.tak 10 (.tak 11 (.tak 12 (.tak 13 (.tak 14 (.tak 15 .done))))))))))))))))
attribute [go_sem] pl_relay_ok0
def Chain.relayed (c : Chain) (s : State) (h : Int) (e : Event) : Chain :=
  if e.kind = 4 then c.get s e.packet else if e.kind = 5 then c.tell s e.n else if e.kind = 6 then c.late s h e.n else if e.kind = 7 then c.step s e.n else c
theorem relay_ok (c : Chain) (s : State) (h : Int) (e : Event) (hc : c.ok = true) (hs : s.ok = true) : Call Tryz.prog 64 [.c (.ptr 0 0 0 0), proofA s h, e.av] (linkH c 0 1) 8 (.tup []) (linkH (c.relayed s h e) 0 8) 15 := by
  unfold Chain.relayed
  by_cases k4 : e.kind = 4
  · rw [if_pos k4]
    refine CallX.of tok Tryz.func64 rfl rfl Tryz.ntmps64 Tryz.results64 rfl (by decide) (fun cx hnt hk0 => ?_)
    repeat' (first | refine AWp.seq fun K hK => ?_ | refine hK _ ?_; clear hK K | refine hX ?_; clear hX hY X Y | refine hY ?_; clear hX hY X Y | refine AWp.block ?_ | refine hL _ _ ?_ | ((first | refine AWp.region tok (by rw [hnt]; rfl) ?_ | refine AWp.cond' fun X Y hX hY => ?_ | refine AWp.skip ?_ | refine AWp.exit ?_ | refine AWp.ret ?_ | refine Fin.auto [] ?_ | refine runS_c [0, 1, 2, 3, 4, 5, 6, 7] (get_ok2 c s h e.packet hc hs) rfl ?_ ?_ ?_ | ((first | apply gR | apply gC) <;> intro hq <;> (try simp only [nT, nF, n1, n0] at hq) <;> (have hb := hq) <;> (try simp only [dT, dF, eT, eF] at hb) <;> first | (exfalso; omega) | ((try simp only [hq]); clear hq))) <;> (try simp only [go_sem, qa, qb, qc, qd, qe, qf, qg, qh, qi, qj, qk, ql, qm, qn, qo, qp, qq, qr, qs, reduceIte, reduceCtorEq])) | refine Fits.of ?_ ?_ | (refine aL ?_ (fun hp => ?_) <;> ((try simp only [rowSet_fI hp, rowSet_fI2 hp]); (try simp only [rowSet_fB hp]))) | refine aE ?_ fun hp => ?_ | refine aC ?_ fun hp => ?_ | refine And.intro ?_ ?_ | clear hK K | clear hX hY X Y | clear hL L)
    all_goals try omega
  rw [if_neg k4]
  by_cases k5 : e.kind = 5
  · rw [if_pos k5]
    refine CallX.of tok Tryz.func64 rfl rfl Tryz.ntmps64 Tryz.results64 rfl (by decide) (fun cx hnt hk0 => ?_)
    repeat' (first | refine AWp.seq fun K hK => ?_ | refine hK _ ?_; clear hK K | refine hX ?_; clear hX hY X Y | refine hY ?_; clear hX hY X Y | refine AWp.block ?_ | refine hL _ _ ?_ | ((first | refine AWp.region tok (by rw [hnt]; rfl) ?_ | refine AWp.cond' fun X Y hX hY => ?_ | refine AWp.skip ?_ | refine AWp.exit ?_ | refine AWp.ret ?_ | refine Fin.auto [] ?_ | refine runS_c [0, 1, 2, 3, 4, 5, 6, 7] (tell_ok2 c s h e.n hc hs) rfl ?_ ?_ ?_ | ((first | apply gR | apply gC) <;> intro hq <;> (try simp only [nT, nF, n1, n0] at hq) <;> (have hb := hq) <;> (try simp only [dT, dF, eT, eF] at hb) <;> first | (exfalso; omega) | ((try simp only [hq]); clear hq))) <;> (try simp only [go_sem, qa, qb, qc, qd, qe, qf, qg, qh, qi, qj, qk, ql, qm, qn, qo, qp, qq, qr, qs, reduceIte, reduceCtorEq])) | refine Fits.of ?_ ?_ | (refine aL ?_ (fun hp => ?_) <;> ((try simp only [rowSet_fI hp, rowSet_fI2 hp]); (try simp only [rowSet_fB hp]))) | refine aE ?_ fun hp => ?_ | refine aC ?_ fun hp => ?_ | refine And.intro ?_ ?_ | clear hK K | clear hX hY X Y | clear hL L)
    all_goals try omega
  rw [if_neg k5]
  by_cases k6 : e.kind = 6
  · rw [if_pos k6]
    refine CallX.of tok Tryz.func64 rfl rfl Tryz.ntmps64 Tryz.results64 rfl (by decide) (fun cx hnt hk0 => ?_)
    repeat' (first | refine AWp.seq fun K hK => ?_ | refine hK _ ?_; clear hK K | refine hX ?_; clear hX hY X Y | refine hY ?_; clear hX hY X Y | refine AWp.block ?_ | refine hL _ _ ?_ | ((first | refine AWp.region tok (by rw [hnt]; rfl) ?_ | refine AWp.cond' fun X Y hX hY => ?_ | refine AWp.skip ?_ | refine AWp.exit ?_ | refine AWp.ret ?_ | refine Fin.auto [] ?_ | refine runS_c [0, 1, 2, 3, 4, 5, 6, 7] (late_ok2 c s h e.n hc hs) rfl ?_ ?_ ?_ | ((first | apply gR | apply gC) <;> intro hq <;> (try simp only [nT, nF, n1, n0] at hq) <;> (have hb := hq) <;> (try simp only [dT, dF, eT, eF] at hb) <;> first | (exfalso; omega) | ((try simp only [hq]); clear hq))) <;> (try simp only [go_sem, qa, qb, qc, qd, qe, qf, qg, qh, qi, qj, qk, ql, qm, qn, qo, qp, qq, qr, qs, reduceIte, reduceCtorEq])) | refine Fits.of ?_ ?_ | (refine aL ?_ (fun hp => ?_) <;> ((try simp only [rowSet_fI hp, rowSet_fI2 hp]); (try simp only [rowSet_fB hp]))) | refine aE ?_ fun hp => ?_ | refine aC ?_ fun hp => ?_ | refine And.intro ?_ ?_ | clear hK K | clear hX hY X Y | clear hL L)
    all_goals try omega
  rw [if_neg k6]
  by_cases k7 : e.kind = 7
  · rw [if_pos k7]
    refine CallX.of tok Tryz.func64 rfl rfl Tryz.ntmps64 Tryz.results64 rfl (by decide) (fun cx hnt hk0 => ?_)
    repeat' (first | refine AWp.seq fun K hK => ?_ | refine hK _ ?_; clear hK K | refine hX ?_; clear hX hY X Y | refine hY ?_; clear hX hY X Y | refine AWp.block ?_ | refine hL _ _ ?_ | ((first | refine AWp.region tok (by rw [hnt]; rfl) ?_ | refine AWp.cond' fun X Y hX hY => ?_ | refine AWp.skip ?_ | refine AWp.exit ?_ | refine AWp.ret ?_ | refine Fin.auto [] ?_ | refine runS_c [0, 1, 2, 3, 4, 5, 6, 7] (step_ok2 c s h e.n hc hs) rfl ?_ ?_ ?_ | ((first | apply gR | apply gC) <;> intro hq <;> (try simp only [nT, nF, n1, n0] at hq) <;> (have hb := hq) <;> (try simp only [dT, dF, eT, eF] at hb) <;> first | (exfalso; omega) | ((try simp only [hq]); clear hq))) <;> (try simp only [go_sem, qa, qb, qc, qd, qe, qf, qg, qh, qi, qj, qk, ql, qm, qn, qo, qp, qq, qr, qs, reduceIte, reduceCtorEq])) | refine Fits.of ?_ ?_ | (refine aL ?_ (fun hp => ?_) <;> ((try simp only [rowSet_fI hp, rowSet_fI2 hp]); (try simp only [rowSet_fB hp]))) | refine aE ?_ fun hp => ?_ | refine aC ?_ fun hp => ?_ | refine And.intro ?_ ?_ | clear hK K | clear hX hY X Y | clear hL L)
    all_goals try omega
  rw [if_neg k7]
  refine CallX.of tok Tryz.func64 rfl rfl Tryz.ntmps64 Tryz.results64 rfl (by decide) (fun cx hnt hk0 => ?_)
  repeat' (first | refine AWp.seq fun K hK => ?_ | refine hK _ ?_; clear hK K | refine hX ?_; clear hX hY X Y | refine hY ?_; clear hX hY X Y | refine AWp.block ?_ | refine hL _ _ ?_ | ((first | refine AWp.region tok (by rw [hnt]; rfl) ?_ | refine AWp.cond' fun X Y hX hY => ?_ | refine AWp.skip ?_ | refine AWp.exit ?_ | refine AWp.ret ?_ | refine Fin.auto [] ?_ | ((first | apply gR | apply gC) <;> intro hq <;> (try simp only [nT, nF, n1, n0] at hq) <;> (have hb := hq) <;> (try simp only [dT, dF, eT, eF] at hb) <;> first | (exfalso; omega) | ((try simp only [hq]); clear hq))) <;> (try simp only [go_sem, qa, qb, qc, qd, qe, qf, qg, qh, qi, qj, qk, ql, qm, qn, qo, qp, qq, qr, qs, reduceIte, reduceCtorEq])) | refine Fits.of ?_ ?_ | (refine aL ?_ (fun hp => ?_) <;> ((try simp only [rowSet_fI hp, rowSet_fI2 hp]); (try simp only [rowSet_fB hp]))) | refine aE ?_ fun hp => ?_ | refine aC ?_ fun hp => ?_ | refine And.intro ?_ ?_ | clear hK K | clear hX hY X Y | clear hL L)
  all_goals try omega
theorem chainOk_ok (n : Int) : Call Tryz.prog 48 [I n] [] 0 (.o (BB (In n 1 2))) [] 0 := by
  refine CallX.of tok Tryz.func48 rfl rfl Tryz.ntmps48 Tryz.results48 rfl (by decide) (fun cx hnt hk0 => ?_)
  repeat' (first | refine AWp.seq fun K hK => ?_ | refine hK _ ?_; clear hK K | refine hX ?_; clear hX hY X Y | refine hY ?_; clear hX hY X Y | refine AWp.block ?_ | refine hL _ _ ?_ | ((first | refine AWp.region tok (by rw [hnt]; rfl) ?_ | refine AWp.cond' fun X Y hX hY => ?_ | refine AWp.skip ?_ | refine AWp.exit ?_ | refine AWp.ret ?_ | refine Fin.auto [] ?_ | ((first | apply gR | apply gC) <;> intro hq <;> (try simp only [nT, nF, n1, n0] at hq) <;> (have hb := hq) <;> (try simp only [dT, dF, eT, eF] at hb) <;> first | (exfalso; omega) | ((try simp only [hq]); clear hq))) <;> (try simp only [go_sem, qa, qb, qc, qd, qe, qf, qg, qh, qi, qj, qk, ql, qm, qn, qo, qp, qq, qr, qs, reduceIte, reduceCtorEq])) | refine Fits.of ?_ ?_ | (refine aL ?_ (fun hp => ?_) <;> ((try simp only [rowSet_fI hp, rowSet_fI2 hp]); (try simp only [rowSet_fB hp]))) | refine aE ?_ fun hp => ?_ | refine aC ?_ fun hp => ?_ | refine And.intro ?_ ?_ | clear hK K | clear hX hY X Y | clear hL L)
  all_goals simp [In, *]
def pairB : AObj := .box [.ptr 1 0 0 0, .ptr 2 0 0 0]
attribute [go_sem] pairB
theorem ends_1 (n : Int) (h : n = 1) : Call Tryz.prog 58 [.c (.ptr 0 0 0 0), I n] [(0, pairB)] 3 (.tup [.c (.ptr 1 0 0 0), .c (.ptr 2 0 0 0)]) [(0, pairB)] 3 := by
  subst h
  refine CallX.of tok Tryz.func58 rfl rfl Tryz.ntmps58 Tryz.results58 rfl (by decide) (fun cx hnt hk0 => ?_)
  
  repeat' (first | refine AWp.seq fun K hK => ?_ | refine hK _ ?_; clear hK K | refine hX ?_; clear hX hY X Y | refine hY ?_; clear hX hY X Y | refine AWp.block ?_ | refine hL _ _ ?_ | ((first | refine AWp.region tok (by rw [hnt]; rfl) ?_ | refine AWp.cond' fun X Y hX hY => ?_ | refine AWp.skip ?_ | refine AWp.exit ?_ | refine AWp.ret ?_ | refine Fin.auto [] ?_ | refine AWp.draw (id := 1) tok mixed pl_relay_ok0 [0] [0, 1] (by kernel_rfl) (by kernel_rfl) (by rw [hnt]; rfl) ?_ | ((first | apply gR | apply gC | apply gT | apply gE) <;> intro hq <;> (try simp only [nT, nF, n1, n0] at hq) <;> (have hb := hq) <;> (try simp only [dT, dF, eT, eF] at hb) <;> first | (exfalso; omega) | ((try simp only [hq]); clear hq))) <;> (try simp only [go_sem, qa, qb, qc, qd, qe, qf, qg, qh, qi, qj, qk, ql, qm, qn, qo, qp, qq, qr, qs, reduceIte, reduceCtorEq])) | refine Fits.of ?_ ?_ | (refine aL ?_ (fun hp => ?_) <;> ((try simp only [rowSet_fI hp, rowSet_fI2 hp]); (try simp only [rowSet_fB hp]))) | refine aE ?_ fun hp => ?_ | refine aC ?_ fun hp => ?_ | refine And.intro ?_ ?_ | clear hK K | clear hX hY X Y | clear hL L)
  all_goals try omega
theorem ends_2 (n : Int) (h : n = 2) : Call Tryz.prog 58 [.c (.ptr 0 0 0 0), I n] [(0, pairB)] 3 (.tup [.c (.ptr 2 0 0 0), .c (.ptr 1 0 0 0)]) [(0, pairB)] 3 := by
  subst h
  refine CallX.of tok Tryz.func58 rfl rfl Tryz.ntmps58 Tryz.results58 rfl (by decide) (fun cx hnt hk0 => ?_)
  
  repeat' (first | refine AWp.seq fun K hK => ?_ | refine hK _ ?_; clear hK K | refine hX ?_; clear hX hY X Y | refine hY ?_; clear hX hY X Y | refine AWp.block ?_ | refine hL _ _ ?_ | ((first | refine AWp.region tok (by rw [hnt]; rfl) ?_ | refine AWp.cond' fun X Y hX hY => ?_ | refine AWp.skip ?_ | refine AWp.exit ?_ | refine AWp.ret ?_ | refine Fin.auto [] ?_ | refine AWp.draw (id := 1) tok mixed pl_relay_ok0 [0] [0, 1] (by kernel_rfl) (by kernel_rfl) (by rw [hnt]; rfl) ?_ | ((first | apply gR | apply gC | apply gT | apply gE) <;> intro hq <;> (try simp only [nT, nF, n1, n0] at hq) <;> (have hb := hq) <;> (try simp only [dT, dF, eT, eF] at hb) <;> first | (exfalso; omega) | ((try simp only [hq]); clear hq))) <;> (try simp only [go_sem, qa, qb, qc, qd, qe, qf, qg, qh, qi, qj, qk, ql, qm, qn, qo, qp, qq, qr, qs, reduceIte, reduceCtorEq])) | refine Fits.of ?_ ?_ | (refine aL ?_ (fun hp => ?_) <;> ((try simp only [rowSet_fI hp, rowSet_fI2 hp]); (try simp only [rowSet_fB hp]))) | refine aE ?_ fun hp => ?_ | refine aC ?_ fun hp => ?_ | refine And.intro ?_ ?_ | clear hK K | clear hX hY X Y | clear hL L)
  all_goals try omega
/-- A run that is being worked on: its box, its two chains, their rows under the handles from ra and rb on. -/
def pairH (w : Two) (ra rb : Nat) : Heap := (0, pairB) :: (linkH w.a 1 ra ++ linkH w.b 2 rb)
attribute [go_sem] pairH
theorem know_in {c o : Chain} {h : Int} (hc : c.ok = true) (hk : kAll c o) (h1 : c.knows.contains h = true) : 1 ≤ h ∧ h ≤ o.past.length := by
  have hm : h ∈ c.knows := by simpa using h1
  obtain ⟨q1, q2, q3, q4, q5, q6⟩ := chain_ok hc
  exact ⟨((knows_iff.1 q6).1 h hm).1, hk h hm⟩
theorem get_not {c : Chain} {s : State} {p : Packet} (hs : s.ok = true) (h : p.ok = false) : c.get s p = c := by
  unfold Chain.get
  rw [if_neg]
  intro hB
  simp only [Chain.getB, Bool.and_eq_true] at hB
  rw [(hasB_ok hs hB.2.1).1] at h; cases h
theorem on_relayed {c o : Chain} {e : Event} (hc : c.ok = true) (ho : o.ok = true) (hk : kAll c o) (h4 : 4 ≤ e.kind ∧ e.kind ≤ 7) (hn : ¬ (e.kind = 7 ∧ (e.n = 1 ∨ e.n = 5))) :
    c.on o e = if c.knows.contains e.height = true then c.relayed (o.at e.height) e.height e else c := by
  unfold Chain.on
  rw [if_neg (by omega), if_neg (by omega), if_neg (by omega), if_neg (by omega), if_neg hn]
  unfold Chain.relay Chain.relayB
  cases h : c.knows.contains e.height
  · simp
  · have hi := know_in hc hk h
    rw [Bool.true_and, if_pos (decide_eq_true hi.2), if_pos rfl]
    unfold Chain.relayed
    have hs : (o.at e.height).ok = true := (relay_at hc ho (by simp [Chain.relayB, -List.contains_eq_mem, h, hi.2] : c.relayB o e.height = true)).2.2
    split
    · split
      · rfl
      · exact (get_not hs (Bool.eq_false_iff.2 (by assumption))).symm
    · rfl
theorem on_new {c o : Chain} {e : Event} (h7 : e.kind = 7) (hn : e.n = 1 ∨ e.n = 5) : c.on o e = c.relayed State.new 0 e := by
  unfold Chain.on Chain.relayed
  rw [if_neg (by omega), if_neg (by omega), if_neg (by omega), if_neg (by omega), if_pos ⟨h7, hn⟩, if_neg (by omega), if_neg (by omega), if_neg (by omega), if_pos h7]
theorem on_none {c o : Chain} {e : Event} (h : e.kind < 1 ∨ 8 < e.kind) : c.on o e = c := by
  unfold Chain.on
  rw [if_neg (by omega), if_neg (by omega), if_neg (by omega), if_neg (by omega), if_neg (by omega)]
  unfold Chain.relay
  rw [if_neg (show ¬ e.kind = 4 by omega), if_neg (show ¬ e.kind = 5 by omega), if_neg (show ¬ e.kind = 6 by omega), if_neg (show ¬ e.kind = 7 by omega)]
  split <;> rfl
end Go.Hw
