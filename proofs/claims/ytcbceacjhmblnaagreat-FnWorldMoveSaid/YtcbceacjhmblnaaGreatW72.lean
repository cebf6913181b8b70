/- What is proved here: parts W72 of the walk of the law and of its plain side; no condition but those that each theorem states. -/
import Derived.Test.YtcbceacjhmblnaaGreatW71
import Derived.Test.YtcbceacjhmblnaaGreatE1
/- What is proved: what the program adds up of lists; both ends of a world; how many coins there are. -/
set_option linter.all false
set_option maxRecDepth 100000
set_option maxHeartbeats 4000000
namespace Go.Hw
open Go.Proofs
open Nat renaming reduceDiv → qa, reduceMod → qb, reduceAdd → qc, reduceMul → qd, reduceSub → qe, reduceLeDiff → qf, reduceBEq → qg, reduceEqDiff → qh, reduceBeqDiff → qi, reduceLT → qj
open Int renaming reduceToNat → qk, reduceAdd → ql, reduceSub → qm, reduceNeg → qn, reduceLT → qo, reduceLE → qp, reduceEq → qq, reduceBEq → qr, reduceBNe → qs
open Go.Hw renaming runG_split → gR, condG_split → gC, takG_split → gT, effG_split → gE
def pl_addAll_ok0 : Plan := (.tak 0 (.tak 1 (.tak 2 (.tak 3 (.tak 4 (.tak 5 (.tak 6 (.tak 7 (.tak 8 (.tak 9 (.tak 10 (.tak 11 (.all (.cons 12 (.all (.cons 13 .done .nil)) .nil))))))))))))))
attribute [go_sem] pl_addAll_ok0
theorem addAll_ok (n : Int) (l : List Int) (h0 : 0 ≤ n) (hn : n ≤ 1000) (hl : parts l = true) : Call Tryz.prog 54 [tallyV 0, .c (.t (intsT l))] [(0, .box [ci n])] 1 (.tup []) [(0, .box [ci (n + isum l)])] 1 := by
  have h3 := parts_len hl
  refine CallX.of tok Tryz.func54 rfl rfl Tryz.ntmps54 Tryz.results54 rfl (by decide) (fun cx hnt hk0 => ?_)
  repeat' (first | refine AWp.seq fun K hK => ?_ | refine hK _ ?_; clear hK K | refine hX ?_; clear hX hY X Y | refine hY ?_; clear hX hY X Y | refine AWp.block ?_ | refine hL _ _ ?_ | ((first | refine AWp.region tok (by rw [hnt]; rfl) ?_ | refine AWp.cond' fun X Y hX hY => ?_ | refine AWp.skip ?_ | refine AWp.exit ?_ | refine AWp.ret ?_ | refine Fin.auto [] ?_ | ((first | apply gR | apply gC) <;> intro hq <;> (try simp only [nT, nF, n1, n0] at hq) <;> (have hb := hq) <;> (try simp only [dT, dF, eT, eF] at hb) <;> first | (exfalso; omega) | ((try simp only [hq]); clear hq))) <;> (try simp only [go_sem, qa, qb, qc, qd, qe, qf, qg, qh, qi, qj, qk, ql, qm, qn, qo, qp, qq, qr, qs, reduceIte, reduceCtorEq])) | refine Fits.of ?_ ?_ | refine aL ?_ fun hp => ?_ | refine aE ?_ fun hp => ?_ | refine aC ?_ fun hp => ?_ | refine And.intro ?_ ?_ | clear hK K | clear hX hY X Y | clear hL L)
  all_goals try omega
  refine AWp.loop (fun k : Nat => ⟨[(0, .o (tallyV 0)), (6, .o (.c (.t (intsT l)))), (7, .o (I l.length)), (8, .o (I k))], [(0, .box [ci (n + isum (l.take k))])], 1⟩) (fun k => k ≤ l.length) (fun k => l.length - k) 0 (Nat.zero_le _) ?_ ?_
  · refine SLe.auto hk0 [] ?_; simp only [go_sem, qa, qb, qc, qd, qe, qf, qg, qh, qi, qj, qk, ql, qm, qn, qo, qp, qq, qr, qs, reduceIte, reduceCtorEq, List.take_zero]
    all_goals first | rfl | simp [isum]
  intro k hk
  by_cases hlt : k < l.length
  · have y1 := parts_sum hl k hk
    have y2 := parts_get hl k
    have y3 := isum_take l k hlt
    repeat' (first | refine AWp.seq fun K hK => ?_ | refine hK _ ?_; clear hK K | refine hX ?_; clear hX hY X Y | refine hY ?_; clear hX hY X Y | refine AWp.block ?_ | refine hL _ _ ?_ | ((first | refine AWp.region tok (by rw [hnt]; rfl) ?_ | refine AWp.cond' fun X Y hX hY => ?_ | refine AWp.skip ?_ | refine AWp.exit ?_ | refine AWp.ret ?_ | refine Fin.auto [] ?_ | refine runS_c [_] (tally_ok (n + isum (l.take k)) (l.getD k 0) (by omega) (by omega)) rfl ?_ ?_ ?_ | refine SLe.auto hk0 [] ?_ | ((first | apply gR | apply gC) <;> intro hq <;> (try simp only [nT, nF, n1, n0] at hq) <;> (have hb := hq) <;> (try simp only [dT, dF, eT, eF] at hb) <;> first | (exfalso; omega) | ((try simp only [hq]); clear hq))) <;> (try simp only [go_sem, qa, qb, qc, qd, qe, qf, qg, qh, qi, qj, qk, ql, qm, qn, qo, qp, qq, qr, qs, reduceIte, reduceCtorEq, y3])) | refine ⟨k + 1, ?_, ?_, ?_⟩ | refine Fits.of ?_ ?_ | refine aL ?_ fun hp => ?_ | refine aE ?_ fun hp => ?_ | refine aC ?_ fun hp => ?_ | refine And.intro ?_ ?_ | clear hK K | clear hX hY X Y | clear hL L)
    all_goals try omega
    all_goals try (first | omega | (simp only [decide_eq_true_eq, decide_eq_false_iff_not, decide_eq_decide]; omega))
  · have e : k = l.length := by omega
    subst e
    repeat' (first | refine AWp.seq fun K hK => ?_ | refine hK _ ?_; clear hK K | refine hX ?_; clear hX hY X Y | refine hY ?_; clear hX hY X Y | refine AWp.block ?_ | refine hL _ _ ?_ | ((first | refine AWp.region tok (by rw [hnt]; rfl) ?_ | refine AWp.cond' fun X Y hX hY => ?_ | refine AWp.skip ?_ | refine AWp.exit ?_ | refine AWp.ret ?_ | refine Fin.auto [] ?_ | ((first | apply gR | apply gC) <;> intro hq <;> (try simp only [nT, nF, n1, n0] at hq) <;> (have hb := hq) <;> (try simp only [dT, dF, eT, eF] at hb) <;> first | (exfalso; omega) | ((try simp only [hq]); clear hq))) <;> (try simp only [go_sem, qa, qb, qc, qd, qe, qf, qg, qh, qi, qj, qk, ql, qm, qn, qo, qp, qq, qr, qs, reduceIte, reduceCtorEq, List.take_length])) | refine Fits.of ?_ ?_ | refine aL ?_ fun hp => ?_ | refine aE ?_ fun hp => ?_ | refine aC ?_ fun hp => ?_ | refine And.intro ?_ ?_ | clear hK K | clear hX hY X Y | clear hL L)
    all_goals try omega
theorem BankAll_ok (b : Bank) (h : b.ok = true) : Call Tryz.prog 52 [b.av] [] 0 (.tup [I 30, I (isum b.notes)]) [] 0 := by
  obtain ⟨p1, p2, p3, p4, p5⟩ := bank_ok h
  have q1 := parts_len p1
  have q2 := parts_len p2
  have q3 := parts_all p1
  have q4 := parts_all p2
  have cB := iBankOk_ok b (by omega) (by omega) (by omega)
  rw [h] at cB
  have c1 := amountTotal_ok b.own (by omega)
  have c2 := amountTotal_ok b.notes (by omega)
  rw [p1, if_pos rfl] at c1
  rw [p2, if_pos rfl] at c2
  refine CallX.of tok Tryz.func52 rfl rfl Tryz.ntmps52 Tryz.results52 rfl (by decide) (fun cx hnt hk0 => ?_)
  repeat' (first | refine AWp.seq fun K hK => ?_ | refine hK _ ?_; clear hK K | refine hX ?_; clear hX hY X Y | refine hY ?_; clear hX hY X Y | refine AWp.block ?_ | refine hL _ _ ?_ | ((first | refine AWp.region tok (by rw [hnt]; rfl) ?_ | refine AWp.cond' fun X Y hX hY => ?_ | refine AWp.skip ?_ | refine AWp.exit ?_ | refine AWp.ret ?_ | refine Fin.auto [] ?_ | refine runS_c [] (cB) rfl ?_ ?_ ?_ | refine runS_c [] (c1) rfl ?_ ?_ ?_ | refine runS_c [] (c2) rfl ?_ ?_ ?_ | ((first | apply gR | apply gC) <;> intro hq <;> (try simp only [nT, nF, n1, n0] at hq) <;> (have hb := hq) <;> (try simp only [dT, dF, eT, eF] at hb) <;> first | (exfalso; omega) | ((try simp only [hq]); clear hq))) <;> (try simp only [go_sem, qa, qb, qc, qd, qe, qf, qg, qh, qi, qj, qk, ql, qm, qn, qo, qp, qq, qr, qs, reduceIte, reduceCtorEq, p4])) | refine Fits.of ?_ ?_ | refine aL ?_ fun hp => ?_ | refine aE ?_ fun hp => ?_ | refine aC ?_ fun hp => ?_ | refine And.intro ?_ ?_ | clear hK K | clear hX hY X Y | clear hL L)
  all_goals try omega
theorem worldEnds_1 (a b : Chain) : Call Tryz.prog 49 [.g [.t (chainsT (Two.list ⟨a, b⟩))], I 1] [] 0 (.tup [a.av, b.av]) [] 0 := by
  refine CallX.of tok Tryz.func49 rfl rfl Tryz.ntmps49 Tryz.results49 rfl (by decide) (fun cx hnt hk0 => ?_)
  
  repeat' (first | refine AWp.seq fun K hK => ?_ | refine hK _ ?_; clear hK K | refine hX ?_; clear hX hY X Y | refine hY ?_; clear hX hY X Y | refine AWp.block ?_ | refine hL _ _ ?_ | ((first | refine AWp.region tok (by rw [hnt]; rfl) ?_ | refine AWp.cond' fun X Y hX hY => ?_ | refine AWp.skip ?_ | refine AWp.exit ?_ | refine AWp.ret ?_ | refine Fin.auto [] ?_ | refine AWp.draw (id := 1) tok mixed pl_addAll_ok0 [0] [1, 2, 4, 5] (by kernel_rfl) (by kernel_rfl) (by rw [hnt]; rfl) ?_ | ((first | apply gR | apply gC | apply gT | apply gE) <;> intro hq <;> (try simp only [nT, nF, n1, n0] at hq) <;> (have hb := hq) <;> (try simp only [dT, dF, eT, eF] at hb) <;> first | (exfalso; omega) | ((try simp only [hq]); clear hq))) <;> (try simp only [go_sem, qa, qb, qc, qd, qe, qf, qg, qh, qi, qj, qk, ql, qm, qn, qo, qp, qq, qr, qs, reduceIte, reduceCtorEq, Two.list, List.getD_cons_succ])) | refine Fits.of ?_ ?_ | refine aL ?_ fun hp => ?_ | refine aE ?_ fun hp => ?_ | refine aC ?_ fun hp => ?_ | refine And.intro ?_ ?_ | clear hK K | clear hX hY X Y | clear hL L)
  all_goals try omega
theorem worldEnds_2 (a b : Chain) : Call Tryz.prog 49 [.g [.t (chainsT (Two.list ⟨a, b⟩))], I 2] [] 0 (.tup [b.av, a.av]) [] 0 := by
  refine CallX.of tok Tryz.func49 rfl rfl Tryz.ntmps49 Tryz.results49 rfl (by decide) (fun cx hnt hk0 => ?_)
  
  repeat' (first | refine AWp.seq fun K hK => ?_ | refine hK _ ?_; clear hK K | refine hX ?_; clear hX hY X Y | refine hY ?_; clear hX hY X Y | refine AWp.block ?_ | refine hL _ _ ?_ | ((first | refine AWp.region tok (by rw [hnt]; rfl) ?_ | refine AWp.cond' fun X Y hX hY => ?_ | refine AWp.skip ?_ | refine AWp.exit ?_ | refine AWp.ret ?_ | refine Fin.auto [] ?_ | refine AWp.draw (id := 1) tok mixed pl_addAll_ok0 [0] [1, 2, 4, 5] (by kernel_rfl) (by kernel_rfl) (by rw [hnt]; rfl) ?_ | ((first | apply gR | apply gC | apply gT | apply gE) <;> intro hq <;> (try simp only [nT, nF, n1, n0] at hq) <;> (have hb := hq) <;> (try simp only [dT, dF, eT, eF] at hb) <;> first | (exfalso; omega) | ((try simp only [hq]); clear hq))) <;> (try simp only [go_sem, qa, qb, qc, qd, qe, qf, qg, qh, qi, qj, qk, ql, qm, qn, qo, qp, qq, qr, qs, reduceIte, reduceCtorEq, Two.list, List.getD_cons_succ])) | refine Fits.of ?_ ?_ | refine aL ?_ fun hp => ?_ | refine aE ?_ fun hp => ?_ | refine aC ?_ fun hp => ?_ | refine And.intro ?_ ?_ | clear hK K | clear hX hY X Y | clear hL L)
  all_goals try omega
end Go.Hw
