/- What is proved here: parts LSent of the walk of the law and of its plain side; no condition but those that each theorem states. -/
import Derived.Test.YtcbceacjhmblnaaGreatF1
import Derived.Test.YtcbceacjhmblnaaGreatD5
/- What is proved: packets are numbered, and of a version that there was. -/
set_option linter.all false
set_option maxRecDepth 100000
set_option maxHeartbeats 16000000
namespace Go.Hw
open Go.Proofs
open Nat renaming reduceDiv → qa, reduceMod → qb, reduceAdd → qc, reduceMul → qd, reduceSub → qe, reduceLeDiff → qf, reduceBEq → qg, reduceEqDiff → qh, reduceBeqDiff → qi, reduceLT → qj
open Int renaming reduceToNat → qk, reduceAdd → ql, reduceSub → qm, reduceNeg → qn, reduceLT → qo, reduceLE → qp, reduceEq → qq, reduceBEq → qr, reduceBNe → qs
open Go.Hw renaming runG_split → gR, condG_split → gC, takG_split → gT, effG_split → gE
def pl_FnWorldSent_ok0 : Plan := (.tak 0 (.tak 1 (.tak 2 (.tak 3 (.tak 4 (.tak 5 (.tak 6 (.tak 7 (.tak 8 (.tak 9 (.tak 10 (.tak 11 (.tak 12 (.tak 13 (.tak 14 (.tak 15 (.tak 16 (.tak 17 (.tak 18 (.tak 19 (.tak 20 (.tak 21 (.tak 22 (.tak 23 (.tak 24 (.tak 25 (.tak 26 (.tak 27 (.tak 28 (.tak 29 (.tak 30 (.tak 31 (.tak 32 (.tak 33 (.tak 34 (.tak 35 (.tak 36 (.tak 37 (.tak 38 (.tak 39 .done))))))))))))))))))))))))))))))))))))))))
attribute [go_sem] pl_FnWorldSent_ok0
theorem FnWorldSent_ok (l : List Int) (hb0 : ∀ i, 0 ≤ l.getD i 0 ∧ l.getD i 0 ≤ 255) : Call Tryz.prog 6 [.c (.t (bytesT l))] [] 0 (.o (BB true)) [] 0 := by
  by_cases hlen : (l.length : Int) ≤ 1048576
  · refine CallX.of tok Tryz.func6 rfl rfl Tryz.ntmps6 Tryz.results6 rfl (by decide) (fun cx hnt hk0 => ?_)
    repeat' (first | refine AWp.seq fun K hK => ?_ | refine hK _ ?_; clear hK K | refine hX ?_; clear hX hY X Y | refine hY ?_; clear hX hY X Y | refine AWp.block ?_ | refine hL _ _ ?_ | ((first | refine AWp.region tok (by rw [hnt]; rfl) ?_ | refine AWp.cond' fun X Y hX hY => ?_ | refine AWp.skip ?_ | refine AWp.exit ?_ | refine AWp.ret ?_ | refine Fin.auto [] ?_ | refine runS_at [] (DrawWorldPlay_ok l hb0 hlen) rfl ?_ ?_ (fun es hes => ?_) | refine AWp.draw (id := 15) tok mixed pl_FnWorldSent_ok0 [] [9, 10] (by kernel_rfl) (by kernel_rfl) (by rw [hnt]; rfl) ?_ | refine effS_at [] (DrawWorldPlay_ok l hb0 hlen) rfl ?_ ?_ (fun es hes => ?_) | ((first | apply gR | apply gC | apply gT | apply gE) <;> intro hq <;> (try simp only [nT, nF, n1, n0] at hq) <;> (have hb := hq) <;> (try simp only [dT, dF, eT, eF] at hb) <;> first | (exfalso; omega) | ((try simp only [hq]); clear hq))) <;> (try simp only [go_sem, qa, qb, qc, qd, qe, qf, qg, qh, qi, qj, qk, ql, qm, qn, qo, qp, qq, qr, qs, reduceIte, reduceCtorEq])) | refine Fits.of ?_ ?_ | refine aL ?_ fun hp => ?_ | refine aE ?_ fun hp => ?_ | refine aC ?_ fun hp => ?_ | refine And.intro ?_ ?_ | clear hK K | clear hX hY X Y | clear hL L)
    all_goals try omega
    by_cases h60 : es.length ≤ 60
    · have wi := winv_play es
      have cI := iWorldPlay_ok es h60
      have cS := WorldPlay_ok es h60
      generalize Two.new.play es = w at wi cI cS
      obtain ⟨a, b⟩ := w
      have wok : wOk [a, b] = true := wi.ok
      have C1 : CInv a := wi.ca
      have C2 : CInv b := wi.cb
      have D1 : LInv a b := wi.ab
      have D2 : LInv b a := wi.ba
      obtain ⟨p1, p2, p3, p4, p5, p6⟩ := wOk_iff.1 wok
      have cL := lwWorld_ok (Two.list ⟨a, b⟩) (Two.list ⟨a, b⟩) (two_fit wi.ok) (by simp [Two.list])
      rw [decide_eq_true rfl] at cL
      obtain ⟨q1, q2, q3, q4, q5, q6⟩ := chain_ok p1
      obtain ⟨u1, u2, u3, u4, u5, u6⟩ := chain_ok p2
      obtain ⟨r1, r2, r3, r4, r5, r6, r7, r8, r9⟩ := state_ok q3
      obtain ⟨t1, t2, t3, t4, t5, t6, t7, t8, t9⟩ := state_ok u3
      have q7 := knows_len q6
      have u7 := knows_len u6
      repeat' (first | refine AWp.seq fun K hK => ?_ | refine hK _ ?_; clear hK K | refine hX ?_; clear hX hY X Y | refine hY ?_; clear hX hY X Y | refine AWp.block ?_ | refine hL _ _ ?_ | ((first | refine AWp.region tok (by rw [hnt]; rfl) ?_ | refine AWp.cond' fun X Y hX hY => ?_ | refine AWp.skip ?_ | refine AWp.exit ?_ | refine AWp.ret ?_ | refine Fin.auto [] ?_ | refine runS_c [] (cI) rfl ?_ ?_ ?_ | refine runS_c [] (cS) rfl ?_ ?_ ?_ | refine runS_c [] (cL) rfl ?_ ?_ ?_ | refine AWp.draw (id := 15) tok mixed pl_FnWorldSent_ok0 [] [9, 10] (by kernel_rfl) (by kernel_rfl) (by rw [hnt]; rfl) ?_ | refine effS_c [] (cI) rfl ?_ ?_ ?_ | refine effS_c [] (cS) rfl ?_ ?_ ?_ | refine effS_c [] (cL) rfl ?_ ?_ ?_ | ((first | apply gR | apply gC | apply gT | apply gE) <;> intro hq <;> (try simp only [nT, nF, n1, n0] at hq) <;> (have hb := hq) <;> (try simp only [dT, dF, eT, eF] at hb) <;> first | (exfalso; omega) | ((try simp only [hq]); clear hq))) <;> (try simp only [go_sem, qa, qb, qc, qd, qe, qf, qg, qh, qi, qj, qk, ql, qm, qn, qo, qp, qq, qr, qs, reduceIte, reduceCtorEq])) | refine Fits.of ?_ ?_ | refine aL ?_ fun hp => ?_ | refine aE ?_ fun hp => ?_ | refine aC ?_ fun hp => ?_ | refine And.intro ?_ ?_ | clear hK K | clear hX hY X Y | clear hL L)
      all_goals try omega
      have g1 : a.state.way < 3 → a.state.sent.length = 0 := fun h => by rw [(C1.low h).1]; rfl
      have g2 : b.state.way < 3 → b.state.sent.length = 0 := fun h => by rw [(C2.low h).1]; rfl
      refine AWp.loopN 3 fun L hL => ?_
      repeat' (first | refine AWp.seq fun K hK => ?_ | refine hK _ ?_; clear hK K | refine hX ?_; clear hX hY X Y | refine hY ?_; clear hX hY X Y | refine AWp.block ?_ | refine hL _ _ ?_ | ((first | refine AWp.region tok (by rw [hnt]; rfl) ?_ | refine AWp.cond' fun X Y hX hY => ?_ | refine AWp.skip ?_ | refine AWp.exit ?_ | refine AWp.ret ?_ | refine Fin.auto [] ?_ | refine AWp.draw (id := 15) tok mixed pl_FnWorldSent_ok0 [] [9, 10] (by kernel_rfl) (by kernel_rfl) (by rw [hnt]; rfl) ?_ | ((first | apply gR | apply gC | apply gT | apply gE) <;> intro hq <;> (try simp only [nT, nF, n1, n0] at hq) <;> (have hb := hq) <;> (try simp only [dT, dF, eT, eF] at hb) <;> first | (exfalso; omega) | ((try simp only [hq]); clear hq))) <;> (try simp only [go_sem, qa, qb, qc, qd, qe, qf, qg, qh, qi, qj, qk, ql, qm, qn, qo, qp, qq, qr, qs, reduceIte, reduceCtorEq, Two.list, List.getD_cons_succ])) | refine Fits.of ?_ ?_ | refine aL ?_ fun hp => ?_ | refine aE ?_ fun hp => ?_ | refine aC ?_ fun hp => ?_ | refine And.intro ?_ ?_ | clear hK K | clear hX hY X Y | clear hL L)
      all_goals try omega
      refine AWp.loop (fun k : Nat => ⟨[(4, .o (.c (.ptr 0 0 0 0))), (8, .o (I 0)), (9, .o (.c (.ptr 1 0 0 0))), (10, .o (I k))], [(0, .box [.t (chainsT (Two.list ⟨a, b⟩))]), (1, a.state.box)], 2⟩) (fun k => k ≤ a.state.sent.length) (fun k => a.state.sent.length - k) 0 (Nat.zero_le _) ?_ ?_
      · refine SLe.auto hk0 [] ?_; simp only [go_sem, qa, qb, qc, qd, qe, qf, qg, qh, qi, qj, qk, ql, qm, qn, qo, qp, qq, qr, qs, reduceIte, reduceCtorEq, Two.list, List.getD_cons_succ]
        all_goals first | rfl | omega | simp
      intro k hk
      by_cases hlt : k < a.state.sent.length
      · obtain ⟨x1, x2, x3, x4⟩ := sentOk_iff (r7 k hlt)
        have x5 := fun h0 => pw_get C1.sv default (k := k) h0 hlt
        
        repeat' (first | refine AWp.seq fun K hK => ?_ | refine hK _ ?_; clear hK K | refine hX ?_; clear hX hY X Y | refine hY ?_; clear hX hY X Y | refine AWp.block ?_ | refine hL _ _ ?_ | ((first | refine AWp.region tok (by rw [hnt]; rfl) ?_ | refine AWp.cond' fun X Y hX hY => ?_ | refine AWp.skip ?_ | refine AWp.exit ?_ | refine AWp.ret ?_ | refine Fin.auto [] ?_ | refine AWp.draw (id := 15) tok mixed pl_FnWorldSent_ok0 [1] [9, 10] (by kernel_rfl) (by kernel_rfl) (by rw [hnt]; rfl) ?_ | refine SLe.auto hk0 [] ?_ | ((first | apply gR | apply gC | apply gT | apply gE) <;> intro hq <;> (try simp only [nT, nF, n1, n0] at hq) <;> (have hb := hq) <;> (try simp only [dT, dF, eT, eF] at hb) <;> first | (exfalso; omega) | ((try simp only [hq]); clear hq))) <;> (try simp only [go_sem, qa, qb, qc, qd, qe, qf, qg, qh, qi, qj, qk, ql, qm, qn, qo, qp, qq, qr, qs, reduceIte, reduceCtorEq, Two.list, List.getD_cons_succ])) | refine ⟨k + 1, ?_, ?_, ?_⟩ | refine Fits.of ?_ ?_ | refine aL ?_ fun hp => ?_ | refine aE ?_ fun hp => ?_ | refine aC ?_ fun hp => ?_ | refine And.intro ?_ ?_ | clear hK K | clear hX hY X Y | clear hL L)
        all_goals try (first | omega | (simp only [decide_eq_true_eq, decide_eq_false_iff_not, decide_eq_decide]; omega))
      · repeat' (first | refine AWp.seq fun K hK => ?_ | refine hK _ ?_; clear hK K | refine hX ?_; clear hX hY X Y | refine hY ?_; clear hX hY X Y | refine AWp.block ?_ | refine hL _ _ ?_ | ((first | refine AWp.region tok (by rw [hnt]; rfl) ?_ | refine AWp.cond' fun X Y hX hY => ?_ | refine AWp.skip ?_ | refine AWp.exit ?_ | refine AWp.ret ?_ | refine Fin.auto [] ?_ | refine AWp.draw (id := 15) tok mixed pl_FnWorldSent_ok0 [1] [9, 10] (by kernel_rfl) (by kernel_rfl) (by rw [hnt]; rfl) ?_ | ((first | apply gR | apply gC | apply gT | apply gE) <;> intro hq <;> (try simp only [nT, nF, n1, n0] at hq) <;> (have hb := hq) <;> (try simp only [dT, dF, eT, eF] at hb) <;> first | (exfalso; omega) | ((try simp only [hq]); clear hq))) <;> (try simp only [go_sem, qa, qb, qc, qd, qe, qf, qg, qh, qi, qj, qk, ql, qm, qn, qo, qp, qq, qr, qs, reduceIte, reduceCtorEq, Two.list, List.getD_cons_succ])) | refine Fits.of ?_ ?_ | refine aL ?_ fun hp => ?_ | refine aE ?_ fun hp => ?_ | refine aC ?_ fun hp => ?_ | refine And.intro ?_ ?_ | clear hK K | clear hX hY X Y | clear hL L)
        all_goals try omega
        all_goals
          refine AWp.loop (fun k : Nat => ⟨[(4, .o (.c (.ptr 0 0 0 0))), (8, .o (I 1)), (9, .o (.c (.ptr 1 0 0 0))), (10, .o (I k))], [(0, .box [.t (chainsT (Two.list ⟨a, b⟩))]), (1, b.state.box)], 2⟩) (fun k => k ≤ b.state.sent.length) (fun k => b.state.sent.length - k) 0 (Nat.zero_le _) ?_ ?_
          · refine SLe.auto hk0 [] ?_; simp only [go_sem, qa, qb, qc, qd, qe, qf, qg, qh, qi, qj, qk, ql, qm, qn, qo, qp, qq, qr, qs, reduceIte, reduceCtorEq, Two.list, List.getD_cons_succ]
            all_goals first | rfl | omega | simp
          intro k hk
          by_cases hlt : k < b.state.sent.length
          · obtain ⟨x1, x2, x3, x4⟩ := sentOk_iff (t7 k hlt)
            have x5 := fun h0 => pw_get C2.sv default (k := k) h0 hlt
            
            repeat' (first | refine AWp.seq fun K hK => ?_ | refine hK _ ?_; clear hK K | refine hX ?_; clear hX hY X Y | refine hY ?_; clear hX hY X Y | refine AWp.block ?_ | refine hL _ _ ?_ | ((first | refine AWp.region tok (by rw [hnt]; rfl) ?_ | refine AWp.cond' fun X Y hX hY => ?_ | refine AWp.skip ?_ | refine AWp.exit ?_ | refine AWp.ret ?_ | refine Fin.auto [] ?_ | refine AWp.draw (id := 15) tok mixed pl_FnWorldSent_ok0 [1] [9, 10] (by kernel_rfl) (by kernel_rfl) (by rw [hnt]; rfl) ?_ | refine SLe.auto hk0 [] ?_ | ((first | apply gR | apply gC | apply gT | apply gE) <;> intro hq <;> (try simp only [nT, nF, n1, n0] at hq) <;> (have hb := hq) <;> (try simp only [dT, dF, eT, eF] at hb) <;> first | (exfalso; omega) | ((try simp only [hq]); clear hq))) <;> (try simp only [go_sem, qa, qb, qc, qd, qe, qf, qg, qh, qi, qj, qk, ql, qm, qn, qo, qp, qq, qr, qs, reduceIte, reduceCtorEq, Two.list, List.getD_cons_succ])) | refine ⟨k + 1, ?_, ?_, ?_⟩ | refine Fits.of ?_ ?_ | refine aL ?_ fun hp => ?_ | refine aE ?_ fun hp => ?_ | refine aC ?_ fun hp => ?_ | refine And.intro ?_ ?_ | clear hK K | clear hX hY X Y | clear hL L)
            all_goals try (first | omega | (simp only [decide_eq_true_eq, decide_eq_false_iff_not, decide_eq_decide]; omega))
          · repeat' (first | refine AWp.seq fun K hK => ?_ | refine hK _ ?_; clear hK K | refine hX ?_; clear hX hY X Y | refine hY ?_; clear hX hY X Y | refine AWp.block ?_ | refine hL _ _ ?_ | ((first | refine AWp.region tok (by rw [hnt]; rfl) ?_ | refine AWp.cond' fun X Y hX hY => ?_ | refine AWp.skip ?_ | refine AWp.exit ?_ | refine AWp.ret ?_ | refine Fin.auto [] ?_ | refine AWp.draw (id := 15) tok mixed pl_FnWorldSent_ok0 [1] [9, 10] (by kernel_rfl) (by kernel_rfl) (by rw [hnt]; rfl) ?_ | ((first | apply gR | apply gC | apply gT | apply gE) <;> intro hq <;> (try simp only [nT, nF, n1, n0] at hq) <;> (have hb := hq) <;> (try simp only [dT, dF, eT, eF] at hb) <;> first | (exfalso; omega) | ((try simp only [hq]); clear hq))) <;> (try simp only [go_sem, qa, qb, qc, qd, qe, qf, qg, qh, qi, qj, qk, ql, qm, qn, qo, qp, qq, qr, qs, reduceIte, reduceCtorEq, Two.list, List.getD_cons_succ])) | refine Fits.of ?_ ?_ | refine aL ?_ fun hp => ?_ | refine aE ?_ fun hp => ?_ | refine aC ?_ fun hp => ?_ | refine And.intro ?_ ?_ | clear hK K | clear hX hY X Y | clear hL L)
            all_goals try omega
    · have cL := lwWorld_ok [] [] nil_fit (by simp)
      rw [decide_eq_true rfl] at cL
      repeat' (first | refine AWp.seq fun K hK => ?_ | refine hK _ ?_; clear hK K | refine hX ?_; clear hX hY X Y | refine hY ?_; clear hX hY X Y | refine AWp.block ?_ | refine hL _ _ ?_ | ((first | refine AWp.region tok (by rw [hnt]; rfl) ?_ | refine AWp.cond' fun X Y hX hY => ?_ | refine AWp.skip ?_ | refine AWp.exit ?_ | refine AWp.ret ?_ | refine Fin.auto [] ?_ | refine runS_c [] (iWorldPlay_no es (by omega)) rfl ?_ ?_ ?_ | refine runS_c [] (WorldPlay_no es (by omega)) rfl ?_ ?_ ?_ | refine runS_c [] (cL) rfl ?_ ?_ ?_ | refine AWp.draw (id := 15) tok mixed pl_FnWorldSent_ok0 [1] [9, 10] (by kernel_rfl) (by kernel_rfl) (by rw [hnt]; rfl) ?_ | refine effS_c [] (iWorldPlay_no es (by omega)) rfl ?_ ?_ ?_ | refine effS_c [] (WorldPlay_no es (by omega)) rfl ?_ ?_ ?_ | refine effS_c [] (cL) rfl ?_ ?_ ?_ | ((first | apply gR | apply gC | apply gT | apply gE) <;> intro hq <;> (try simp only [nT, nF, n1, n0] at hq) <;> (have hb := hq) <;> (try simp only [dT, dF, eT, eF] at hb) <;> first | (exfalso; omega) | ((try simp only [hq]); clear hq))) <;> (try simp only [go_sem, qa, qb, qc, qd, qe, qf, qg, qh, qi, qj, qk, ql, qm, qn, qo, qp, qq, qr, qs, reduceIte, reduceCtorEq])) | refine Fits.of ?_ ?_ | refine aL ?_ fun hp => ?_ | refine aE ?_ fun hp => ?_ | refine aC ?_ fun hp => ?_ | refine And.intro ?_ ?_ | clear hK K | clear hX hY X Y | clear hL L)
      all_goals try omega
  · refine CallX.of tok Tryz.func6 rfl rfl Tryz.ntmps6 Tryz.results6 rfl (by decide) (fun cx hnt hk0 => ?_)
    repeat' (first | refine AWp.seq fun K hK => ?_ | refine hK _ ?_; clear hK K | refine hX ?_; clear hX hY X Y | refine hY ?_; clear hX hY X Y | refine AWp.block ?_ | refine hL _ _ ?_ | ((first | refine AWp.region tok (by rw [hnt]; rfl) ?_ | refine AWp.cond' fun X Y hX hY => ?_ | refine AWp.skip ?_ | refine AWp.exit ?_ | refine AWp.ret ?_ | refine Fin.auto [] ?_ | refine AWp.draw (id := 15) tok mixed pl_FnWorldSent_ok0 [] [9, 10] (by kernel_rfl) (by kernel_rfl) (by rw [hnt]; rfl) ?_ | ((first | apply gR | apply gC | apply gT | apply gE) <;> intro hq <;> (try simp only [nT, nF, n1, n0] at hq) <;> (have hb := hq) <;> (try simp only [dT, dF, eT, eF] at hb) <;> first | (exfalso; omega) | ((try simp only [hq]); clear hq))) <;> (try simp only [go_sem, qa, qb, qc, qd, qe, qf, qg, qh, qi, qj, qk, ql, qm, qn, qo, qp, qq, qr, qs, reduceIte, reduceCtorEq])) | refine Fits.of ?_ ?_ | refine aL ?_ fun hp => ?_ | refine aE ?_ fun hp => ?_ | refine aC ?_ fun hp => ?_ | refine And.intro ?_ ?_ | clear hK K | clear hX hY X Y | clear hL L)
    all_goals try omega
end Go.Hw
