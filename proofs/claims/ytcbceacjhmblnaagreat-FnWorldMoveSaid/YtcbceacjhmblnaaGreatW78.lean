/- What is proved here: parts W78 of the walk of the law and of its plain side; no condition but those that each theorem states. -/
import Derived.Test.YtcbceacjhmblnaaGreatF1
import Derived.Test.YtcbceacjhmblnaaGreatD5
/- What is proved: what came is not given back, what is given back does not come, as the laws ask it. -/
set_option linter.all false
set_option maxRecDepth 100000
set_option maxHeartbeats 16000000
namespace Go.Hw
open Go.Proofs
open Nat renaming reduceDiv → qa, reduceMod → qb, reduceAdd → qc, reduceMul → qd, reduceSub → qe, reduceLeDiff → qf, reduceBEq → qg, reduceEqDiff → qh, reduceBeqDiff → qi, reduceLT → qj
open Int renaming reduceToNat → qk, reduceAdd → ql, reduceSub → qm, reduceNeg → qn, reduceLT → qo, reduceLE → qp, reduceEq → qq, reduceBEq → qr, reduceBNe → qs
open Go.Hw renaming runG_split → gR, condG_split → gC, takG_split → gT, effG_split → gE
theorem lwOnce_ok (a b : Chain) (wi : WInv ⟨a, b⟩) : Call Tryz.prog 26 [.g [.t (chainsT (Two.list ⟨a, b⟩))]] [] 0 (.o (BB true)) [] 0 := by
  have D1 : LInv a b := wi.ab
  have D2 : LInv b a := wi.ba
  have wok : wOk [a, b] = true := wi.ok
  obtain ⟨p1, p2, p3, p4, p5, p6⟩ := wOk_iff.1 wok
  obtain ⟨q1, q2, q3, q4, q5, q6⟩ := chain_ok p1
  obtain ⟨u1, u2, u3, u4, u5, u6⟩ := chain_ok p2
  obtain ⟨r1, r2, r3, r4, r5, r6, r7, r8, r9⟩ := state_ok q3
  obtain ⟨t1, t2, t3, t4, t5, t6, t7, t8, t9⟩ := state_ok u3
  refine CallX.of tok Tryz.func26 rfl rfl Tryz.ntmps26 Tryz.results26 rfl (by decide) (fun cx hnt hk0 => ?_)
  
  repeat' (first | refine AWp.seq fun K hK => ?_ | refine hK _ ?_; clear hK K | refine hX ?_; clear hX hY X Y | refine hY ?_; clear hX hY X Y | refine AWp.block ?_ | refine hL _ _ ?_ | ((first | refine AWp.region tok (by rw [hnt]; rfl) ?_ | refine AWp.cond' fun X Y hX hY => ?_ | refine AWp.skip ?_ | refine AWp.exit ?_ | refine AWp.ret ?_ | refine Fin.auto [] ?_ | ((first | apply gR | apply gC) <;> intro hq <;> (try simp only [nT, nF, n1, n0] at hq) <;> (have hb := hq) <;> (try simp only [dT, dF, eT, eF] at hb) <;> first | (exfalso; omega) | ((try simp only [hq]); clear hq))) <;> (try simp only [go_sem, qa, qb, qc, qd, qe, qf, qg, qh, qi, qj, qk, ql, qm, qn, qo, qp, qq, qr, qs, reduceIte, reduceCtorEq, Two.list, List.getD_cons_succ])) | refine Fits.of ?_ ?_ | refine aL ?_ fun hp => ?_ | refine aE ?_ fun hp => ?_ | refine aC ?_ fun hp => ?_ | refine And.intro ?_ ?_ | clear hK K | clear hX hY X Y | clear hL L)
  all_goals try omega
  refine AWp.loopN 3 fun L hL => ?_
  repeat' (first | refine AWp.seq fun K hK => ?_ | refine hK _ ?_; clear hK K | refine hX ?_; clear hX hY X Y | refine hY ?_; clear hX hY X Y | refine AWp.block ?_ | refine hL _ _ ?_ | ((first | refine AWp.region tok (by rw [hnt]; rfl) ?_ | refine AWp.cond' fun X Y hX hY => ?_ | refine AWp.skip ?_ | refine AWp.exit ?_ | refine AWp.ret ?_ | refine Fin.auto [] ?_ | ((first | apply gR | apply gC) <;> intro hq <;> (try simp only [nT, nF, n1, n0] at hq) <;> (have hb := hq) <;> (try simp only [dT, dF, eT, eF] at hb) <;> first | (exfalso; omega) | ((try simp only [hq]); clear hq))) <;> (try simp only [go_sem, qa, qb, qc, qd, qe, qf, qg, qh, qi, qj, qk, ql, qm, qn, qo, qp, qq, qr, qs, reduceIte, reduceCtorEq, Two.list, List.getD_cons_succ])) | refine Fits.of ?_ ?_ | refine aL ?_ fun hp => ?_ | refine aE ?_ fun hp => ?_ | refine aC ?_ fun hp => ?_ | refine And.intro ?_ ?_ | clear hK K | clear hX hY X Y | clear hL L)
  all_goals try omega
  refine AWp.loop (fun k : Nat => ⟨[(1, .o (.c (.ptr 0 0 0 0))), (3, .o (I 0)), (4, .o (.c (.ptr 1 0 0 0))), (5, .o (.c (.ptr 2 0 0 0))), (6, .o (I k))], [(0, .box [.t (chainsT (Two.list ⟨a, b⟩))]), (1, a.state.box), (2, b.state.box)], 3⟩) (fun k => k ≤ a.state.sent.length) (fun k => a.state.sent.length - k) 0 (Nat.zero_le _) ?_ ?_
  · refine SLe.auto hk0 [] ?_; simp only [go_sem, qa, qb, qc, qd, qe, qf, qg, qh, qi, qj, qk, ql, qm, qn, qo, qp, qq, qr, qs, reduceIte, reduceCtorEq, Two.list, List.getD_cons_succ]
    all_goals first | rfl | omega | simp
  intro k hk
  by_cases hlt : k < a.state.sent.length
  · have x1 := once_back D1 hlt
    have x2 := D1.done k hlt
    cases hbk : a.state.back.getD k false
    all_goals
      cases hlv : a.state.live.getD k false
      all_goals
        try simp only [hbk, hlv, Bool.false_eq_true, Bool.true_eq_false, false_implies, implies_true, forall_const, reduceCtorEq, true_implies] at x1 x2
        
        repeat' (first | refine AWp.seq fun K hK => ?_ | refine hK _ ?_; clear hK K | refine hX ?_; clear hX hY X Y | refine hY ?_; clear hX hY X Y | refine AWp.block ?_ | refine hL _ _ ?_ | ((first | refine AWp.region tok (by rw [hnt]; rfl) ?_ | refine AWp.cond' fun X Y hX hY => ?_ | refine AWp.skip ?_ | refine AWp.exit ?_ | refine AWp.ret ?_ | refine Fin.auto [] ?_ | refine SLe.auto hk0 [] ?_ | ((first | apply gR | apply gC) <;> intro hq <;> (try simp only [nT, nF, n1, n0] at hq) <;> (have hb := hq) <;> (try simp only [dT, dF, eT, eF] at hb) <;> first | (exfalso; omega) | ((try simp only [hq]); clear hq))) <;> (try simp only [go_sem, qa, qb, qc, qd, qe, qf, qg, qh, qi, qj, qk, ql, qm, qn, qo, qp, qq, qr, qs, reduceIte, reduceCtorEq, Two.list, List.getD_cons_succ, hbk, hlv])) | refine ⟨k + 1, ?_, ?_, ?_⟩ | refine Fits.of ?_ ?_ | refine aL ?_ fun hp => ?_ | refine aE ?_ fun hp => ?_ | refine aC ?_ fun hp => ?_ | refine And.intro ?_ ?_ | clear hK K | clear hX hY X Y | clear hL L)
        all_goals try (first | omega | (simp only [decide_eq_true_eq, decide_eq_false_iff_not, decide_eq_decide]; omega))
  · repeat' (first | refine AWp.seq fun K hK => ?_ | refine hK _ ?_; clear hK K | refine hX ?_; clear hX hY X Y | refine hY ?_; clear hX hY X Y | refine AWp.block ?_ | refine hL _ _ ?_ | ((first | refine AWp.region tok (by rw [hnt]; rfl) ?_ | refine AWp.cond' fun X Y hX hY => ?_ | refine AWp.skip ?_ | refine AWp.exit ?_ | refine AWp.ret ?_ | refine Fin.auto [] ?_ | ((first | apply gR | apply gC) <;> intro hq <;> (try simp only [nT, nF, n1, n0] at hq) <;> (have hb := hq) <;> (try simp only [dT, dF, eT, eF] at hb) <;> first | (exfalso; omega) | ((try simp only [hq]); clear hq))) <;> (try simp only [go_sem, qa, qb, qc, qd, qe, qf, qg, qh, qi, qj, qk, ql, qm, qn, qo, qp, qq, qr, qs, reduceIte, reduceCtorEq, Two.list, List.getD_cons_succ])) | refine Fits.of ?_ ?_ | refine aL ?_ fun hp => ?_ | refine aE ?_ fun hp => ?_ | refine aC ?_ fun hp => ?_ | refine And.intro ?_ ?_ | clear hK K | clear hX hY X Y | clear hL L)
    all_goals try omega
    refine AWp.loop (fun k : Nat => ⟨[(1, .o (.c (.ptr 0 0 0 0))), (3, .o (I 0)), (4, .o (.c (.ptr 1 0 0 0))), (5, .o (.c (.ptr 2 0 0 0))), (7, .o (I k))], [(0, .box [.t (chainsT (Two.list ⟨a, b⟩))]), (1, a.state.box), (2, b.state.box)], 3⟩) (fun k => a.state.sent.length ≤ k ∧ k ≤ 8) (fun k => 8 - k) a.state.sent.length (by omega) ?_ ?_
    · refine SLe.auto hk0 [] ?_; simp only [go_sem, qa, qb, qc, qd, qe, qf, qg, qh, qi, qj, qk, ql, qm, qn, qo, qp, qq, qr, qs, reduceIte, reduceCtorEq, Two.list, List.getD_cons_succ]
      all_goals first | rfl | omega | simp
    intro k ⟨hk0', hk⟩
    by_cases hlt : k < 8
    · have x1 := once_none D1 (n := k) (by omega)
      
      repeat' (first | refine AWp.seq fun K hK => ?_ | refine hK _ ?_; clear hK K | refine hX ?_; clear hX hY X Y | refine hY ?_; clear hX hY X Y | refine AWp.block ?_ | refine hL _ _ ?_ | ((first | refine AWp.region tok (by rw [hnt]; rfl) ?_ | refine AWp.cond' fun X Y hX hY => ?_ | refine AWp.skip ?_ | refine AWp.exit ?_ | refine AWp.ret ?_ | refine Fin.auto [] ?_ | refine SLe.auto hk0 [] ?_ | ((first | apply gR | apply gC) <;> intro hq <;> (try simp only [nT, nF, n1, n0] at hq) <;> (have hb := hq) <;> (try simp only [dT, dF, eT, eF] at hb) <;> first | (exfalso; omega) | ((try simp only [hq]); clear hq))) <;> (try simp only [go_sem, qa, qb, qc, qd, qe, qf, qg, qh, qi, qj, qk, ql, qm, qn, qo, qp, qq, qr, qs, reduceIte, reduceCtorEq, Two.list, List.getD_cons_succ])) | refine ⟨k + 1, ?_, ?_, ?_⟩ | refine Fits.of ?_ ?_ | refine aL ?_ fun hp => ?_ | refine aE ?_ fun hp => ?_ | refine aC ?_ fun hp => ?_ | refine And.intro ?_ ?_ | clear hK K | clear hX hY X Y | clear hL L)
      all_goals try (first | omega | (simp only [decide_eq_true_eq, decide_eq_false_iff_not, decide_eq_decide]; omega))
    · repeat' (first | refine AWp.seq fun K hK => ?_ | refine hK _ ?_; clear hK K | refine hX ?_; clear hX hY X Y | refine hY ?_; clear hX hY X Y | refine AWp.block ?_ | refine hL _ _ ?_ | ((first | refine AWp.region tok (by rw [hnt]; rfl) ?_ | refine AWp.cond' fun X Y hX hY => ?_ | refine AWp.skip ?_ | refine AWp.exit ?_ | refine AWp.ret ?_ | refine Fin.auto [] ?_ | ((first | apply gR | apply gC) <;> intro hq <;> (try simp only [nT, nF, n1, n0] at hq) <;> (have hb := hq) <;> (try simp only [dT, dF, eT, eF] at hb) <;> first | (exfalso; omega) | ((try simp only [hq]); clear hq))) <;> (try simp only [go_sem, qa, qb, qc, qd, qe, qf, qg, qh, qi, qj, qk, ql, qm, qn, qo, qp, qq, qr, qs, reduceIte, reduceCtorEq, Two.list, List.getD_cons_succ])) | refine Fits.of ?_ ?_ | refine aL ?_ fun hp => ?_ | refine aE ?_ fun hp => ?_ | refine aC ?_ fun hp => ?_ | refine And.intro ?_ ?_ | clear hK K | clear hX hY X Y | clear hL L)
      all_goals try omega
      refine AWp.loop (fun k : Nat => ⟨[(1, .o (.c (.ptr 0 0 0 0))), (3, .o (I 1)), (4, .o (.c (.ptr 1 0 0 0))), (5, .o (.c (.ptr 2 0 0 0))), (6, .o (I k))], [(0, .box [.t (chainsT (Two.list ⟨a, b⟩))]), (1, b.state.box), (2, a.state.box)], 3⟩) (fun k => k ≤ b.state.sent.length) (fun k => b.state.sent.length - k) 0 (Nat.zero_le _) ?_ ?_
      · refine SLe.auto hk0 [] ?_; simp only [go_sem, qa, qb, qc, qd, qe, qf, qg, qh, qi, qj, qk, ql, qm, qn, qo, qp, qq, qr, qs, reduceIte, reduceCtorEq, Two.list, List.getD_cons_succ]
        all_goals first | rfl | omega | simp
      intro k hk
      by_cases hlt : k < b.state.sent.length
      · have x1 := once_back D2 hlt
        have x2 := D2.done k hlt
        cases hbk : b.state.back.getD k false
        all_goals
          cases hlv : b.state.live.getD k false
          all_goals
            try simp only [hbk, hlv, Bool.false_eq_true, Bool.true_eq_false, false_implies, implies_true, forall_const, reduceCtorEq, true_implies] at x1 x2
            
            repeat' (first | refine AWp.seq fun K hK => ?_ | refine hK _ ?_; clear hK K | refine hX ?_; clear hX hY X Y | refine hY ?_; clear hX hY X Y | refine AWp.block ?_ | refine hL _ _ ?_ | ((first | refine AWp.region tok (by rw [hnt]; rfl) ?_ | refine AWp.cond' fun X Y hX hY => ?_ | refine AWp.skip ?_ | refine AWp.exit ?_ | refine AWp.ret ?_ | refine Fin.auto [] ?_ | refine SLe.auto hk0 [] ?_ | ((first | apply gR | apply gC) <;> intro hq <;> (try simp only [nT, nF, n1, n0] at hq) <;> (have hb := hq) <;> (try simp only [dT, dF, eT, eF] at hb) <;> first | (exfalso; omega) | ((try simp only [hq]); clear hq))) <;> (try simp only [go_sem, qa, qb, qc, qd, qe, qf, qg, qh, qi, qj, qk, ql, qm, qn, qo, qp, qq, qr, qs, reduceIte, reduceCtorEq, Two.list, List.getD_cons_succ, hbk, hlv])) | refine ⟨k + 1, ?_, ?_, ?_⟩ | refine Fits.of ?_ ?_ | refine aL ?_ fun hp => ?_ | refine aE ?_ fun hp => ?_ | refine aC ?_ fun hp => ?_ | refine And.intro ?_ ?_ | clear hK K | clear hX hY X Y | clear hL L)
            all_goals try (first | omega | (simp only [decide_eq_true_eq, decide_eq_false_iff_not, decide_eq_decide]; omega))
      · repeat' (first | refine AWp.seq fun K hK => ?_ | refine hK _ ?_; clear hK K | refine hX ?_; clear hX hY X Y | refine hY ?_; clear hX hY X Y | refine AWp.block ?_ | refine hL _ _ ?_ | ((first | refine AWp.region tok (by rw [hnt]; rfl) ?_ | refine AWp.cond' fun X Y hX hY => ?_ | refine AWp.skip ?_ | refine AWp.exit ?_ | refine AWp.ret ?_ | refine Fin.auto [] ?_ | ((first | apply gR | apply gC) <;> intro hq <;> (try simp only [nT, nF, n1, n0] at hq) <;> (have hb := hq) <;> (try simp only [dT, dF, eT, eF] at hb) <;> first | (exfalso; omega) | ((try simp only [hq]); clear hq))) <;> (try simp only [go_sem, qa, qb, qc, qd, qe, qf, qg, qh, qi, qj, qk, ql, qm, qn, qo, qp, qq, qr, qs, reduceIte, reduceCtorEq, Two.list, List.getD_cons_succ])) | refine Fits.of ?_ ?_ | refine aL ?_ fun hp => ?_ | refine aE ?_ fun hp => ?_ | refine aC ?_ fun hp => ?_ | refine And.intro ?_ ?_ | clear hK K | clear hX hY X Y | clear hL L)
        all_goals try omega
        refine AWp.loop (fun k : Nat => ⟨[(1, .o (.c (.ptr 0 0 0 0))), (3, .o (I 1)), (4, .o (.c (.ptr 1 0 0 0))), (5, .o (.c (.ptr 2 0 0 0))), (7, .o (I k))], [(0, .box [.t (chainsT (Two.list ⟨a, b⟩))]), (1, b.state.box), (2, a.state.box)], 3⟩) (fun k => b.state.sent.length ≤ k ∧ k ≤ 8) (fun k => 8 - k) b.state.sent.length (by omega) ?_ ?_
        · refine SLe.auto hk0 [] ?_; simp only [go_sem, qa, qb, qc, qd, qe, qf, qg, qh, qi, qj, qk, ql, qm, qn, qo, qp, qq, qr, qs, reduceIte, reduceCtorEq, Two.list, List.getD_cons_succ]
          all_goals first | rfl | omega | simp
        intro k ⟨hk0', hk⟩
        by_cases hlt : k < 8
        · have x1 := once_none D2 (n := k) (by omega)
          
          repeat' (first | refine AWp.seq fun K hK => ?_ | refine hK _ ?_; clear hK K | refine hX ?_; clear hX hY X Y | refine hY ?_; clear hX hY X Y | refine AWp.block ?_ | refine hL _ _ ?_ | ((first | refine AWp.region tok (by rw [hnt]; rfl) ?_ | refine AWp.cond' fun X Y hX hY => ?_ | refine AWp.skip ?_ | refine AWp.exit ?_ | refine AWp.ret ?_ | refine Fin.auto [] ?_ | refine SLe.auto hk0 [] ?_ | ((first | apply gR | apply gC) <;> intro hq <;> (try simp only [nT, nF, n1, n0] at hq) <;> (have hb := hq) <;> (try simp only [dT, dF, eT, eF] at hb) <;> first | (exfalso; omega) | ((try simp only [hq]); clear hq))) <;> (try simp only [go_sem, qa, qb, qc, qd, qe, qf, qg, qh, qi, qj, qk, ql, qm, qn, qo, qp, qq, qr, qs, reduceIte, reduceCtorEq, Two.list, List.getD_cons_succ])) | refine ⟨k + 1, ?_, ?_, ?_⟩ | refine Fits.of ?_ ?_ | refine aL ?_ fun hp => ?_ | refine aE ?_ fun hp => ?_ | refine aC ?_ fun hp => ?_ | refine And.intro ?_ ?_ | clear hK K | clear hX hY X Y | clear hL L)
          all_goals try (first | omega | (simp only [decide_eq_true_eq, decide_eq_false_iff_not, decide_eq_decide]; omega))
        · repeat' (first | refine AWp.seq fun K hK => ?_ | refine hK _ ?_; clear hK K | refine hX ?_; clear hX hY X Y | refine hY ?_; clear hX hY X Y | refine AWp.block ?_ | refine hL _ _ ?_ | ((first | refine AWp.region tok (by rw [hnt]; rfl) ?_ | refine AWp.cond' fun X Y hX hY => ?_ | refine AWp.skip ?_ | refine AWp.exit ?_ | refine AWp.ret ?_ | refine Fin.auto [] ?_ | ((first | apply gR | apply gC) <;> intro hq <;> (try simp only [nT, nF, n1, n0] at hq) <;> (have hb := hq) <;> (try simp only [dT, dF, eT, eF] at hb) <;> first | (exfalso; omega) | ((try simp only [hq]); clear hq))) <;> (try simp only [go_sem, qa, qb, qc, qd, qe, qf, qg, qh, qi, qj, qk, ql, qm, qn, qo, qp, qq, qr, qs, reduceIte, reduceCtorEq, Two.list, List.getD_cons_succ])) | refine Fits.of ?_ ?_ | refine aL ?_ fun hp => ?_ | refine aE ?_ fun hp => ?_ | refine aC ?_ fun hp => ?_ | refine And.intro ?_ ?_ | clear hK K | clear hX hY X Y | clear hL L)
          all_goals try omega
end Go.Hw
