/- What is proved here: parts LWays of the walk of the law and of its plain side; no condition but those that each theorem states. -/
import Derived.Test.YtcbceacjhmblnaaGreatF1
import Derived.Test.YtcbceacjhmblnaaGreatD6
import Derived.Test.YtcbceacjhmblnaaGreatC1
/- What is proved: ways go on step by step. -/
set_option linter.all false
set_option maxRecDepth 100000
set_option maxHeartbeats 16000000
namespace Go.Hw
open Go.Proofs
open Nat renaming reduceDiv → qa, reduceMod → qb, reduceAdd → qc, reduceMul → qd, reduceSub → qe, reduceLeDiff → qf, reduceBEq → qg, reduceEqDiff → qh, reduceBeqDiff → qi, reduceLT → qj
open Int renaming reduceToNat → qk, reduceAdd → ql, reduceSub → qm, reduceNeg → qn, reduceLT → qo, reduceLE → qp, reduceEq → qq, reduceBEq → qr, reduceBNe → qs
open Go.Hw renaming runG_split → gR, condG_split → gC, takG_split → gT, effG_split → gE
def pl_FnWorldWays_ok0 : Plan := (.tak 2 (.tak 3 (.tak 4 (.tak 5 (.tak 6 (.tak 7 (.tak 9 (.tak 10 (.tak 11 (.tak 12 (.tak 13 (.tak 14 (.all (.cons 0 (.all (.cons 1 (.all (.cons 8 (.all (.cons 15 (.all (.cons 16 (.tak 17 .done) .nil)) .nil)) (.cons 15 (.all (.cons 8 (.all (.cons 16 (.tak 17 .done) .nil)) .nil)) .nil))) (.cons 15 (.all (.cons 1 (.all (.cons 8 (.all (.cons 16 (.tak 17 .done) .nil)) .nil)) .nil)) .nil))) (.cons 15 (.all (.cons 0 (.all (.cons 1 (.all (.cons 8 (.all (.cons 16 (.tak 17 .done) .nil)) .nil)) .nil)) .nil)) .nil)))))))))))))))
attribute [go_sem] pl_FnWorldWays_ok0
theorem FnWorldWays_ok (l : List Int) (hb0 : ∀ i, 0 ≤ l.getD i 0 ∧ l.getD i 0 ≤ 255) : Call Tryz.prog 10 [.c (.t (bytesT l))] [] 0 (.o (BB true)) [] 0 := by
  by_cases hlen : (l.length : Int) ≤ 1048576
  · refine CallX.of tok Tryz.func10 rfl rfl Tryz.ntmps10 Tryz.results10 rfl (by decide) (fun cx hnt hk0 => ?_)
    repeat' (first | refine AWp.seq fun K hK => ?_ | refine hK _ ?_; clear hK K | refine hX ?_; clear hX hY X Y | refine hY ?_; clear hX hY X Y | refine AWp.block ?_ | refine hL _ _ ?_ | ((first | refine AWp.region tok (by rw [hnt]; rfl) ?_ | refine AWp.cond' fun X Y hX hY => ?_ | refine AWp.skip ?_ | refine AWp.exit ?_ | refine AWp.ret ?_ | refine Fin.auto [] ?_ | refine runS_at [] (DrawWorldPlay_ok l hb0 hlen) rfl ?_ ?_ (fun es hes => ?_) | refine AWp.draw (id := 11) tok mixed pl_FnWorldWays_ok0 [] [4, 8] (by kernel_rfl) (by kernel_rfl) (by rw [hnt]; rfl) ?_ | refine effS_at [] (DrawWorldPlay_ok l hb0 hlen) rfl ?_ ?_ (fun es hes => ?_) | ((first | apply gR | apply gC | apply gT | apply gE) <;> intro hq <;> (try simp only [nT, nF, n1, n0] at hq) <;> (have hb := hq) <;> (try simp only [dT, dF, eT, eF] at hb) <;> first | (exfalso; omega) | ((try simp only [hq]); clear hq))) <;> (try simp only [go_sem, qa, qb, qc, qd, qe, qf, qg, qh, qi, qj, qk, ql, qm, qn, qo, qp, qq, qr, qs, reduceIte, reduceCtorEq])) | refine Fits.of ?_ ?_ | refine aL ?_ fun hp => ?_ | refine aE ?_ fun hp => ?_ | refine aC ?_ fun hp => ?_ | refine And.intro ?_ ?_ | clear hK K | clear hX hY X Y | clear hL L)
    all_goals try omega
    by_cases h60 : es.length ≤ 60
    · have wi := winv_play es
      have cI := iWorldPlay_ok es h60
      have cS := WorldPlay_ok es h60
      generalize Two.new.play es = w at wi cI cS
      obtain ⟨a, b⟩ := w
      have wok : wOk [a, b] = true := wi.ok
      have C1 : CInv a := wi.ca
      have C2 : CInv b := wi.cb
      have D1 : LInv a b := wi.ab
      have D2 : LInv b a := wi.ba
      obtain ⟨p1, p2, p3, p4, p5, p6⟩ := wOk_iff.1 wok
      have cL := lwWorld_ok (Two.list ⟨a, b⟩) (Two.list ⟨a, b⟩) (two_fit wi.ok) (by simp [Two.list])
      rw [decide_eq_true rfl] at cL
      obtain ⟨q1, q2, q3, q4, q5, q6⟩ := chain_ok p1
      obtain ⟨u1, u2, u3, u4, u5, u6⟩ := chain_ok p2
      obtain ⟨r1, r2, r3, r4, r5, r6, r7, r8, r9⟩ := state_ok q3
      obtain ⟨t1, t2, t3, t4, t5, t6, t7, t8, t9⟩ := state_ok u3
      have q7 := knows_len q6
      have u7 := knows_len u6
      repeat' (first | refine AWp.seq fun K hK => ?_ | refine hK _ ?_; clear hK K | refine hX ?_; clear hX hY X Y | refine hY ?_; clear hX hY X Y | refine AWp.block ?_ | refine hL _ _ ?_ | ((first | refine AWp.region tok (by rw [hnt]; rfl) ?_ | refine AWp.cond' fun X Y hX hY => ?_ | refine AWp.skip ?_ | refine AWp.exit ?_ | refine AWp.ret ?_ | refine Fin.auto [] ?_ | refine runS_c [] (cI) rfl ?_ ?_ ?_ | refine runS_c [] (cS) rfl ?_ ?_ ?_ | refine runS_c [] (cL) rfl ?_ ?_ ?_ | refine AWp.draw (id := 11) tok mixed pl_FnWorldWays_ok0 [] [4, 8] (by kernel_rfl) (by kernel_rfl) (by rw [hnt]; rfl) ?_ | refine effS_c [] (cI) rfl ?_ ?_ ?_ | refine effS_c [] (cS) rfl ?_ ?_ ?_ | refine effS_c [] (cL) rfl ?_ ?_ ?_ | ((first | apply gR | apply gC | apply gT | apply gE) <;> intro hq <;> (try simp only [nT, nF, n1, n0] at hq) <;> (have hb := hq) <;> (try simp only [dT, dF, eT, eF] at hb) <;> first | (exfalso; omega) | ((try simp only [hq]); clear hq))) <;> (try simp only [go_sem, qa, qb, qc, qd, qe, qf, qg, qh, qi, qj, qk, ql, qm, qn, qo, qp, qq, qr, qs, reduceIte, reduceCtorEq])) | refine Fits.of ?_ ?_ | refine aL ?_ fun hp => ?_ | refine aE ?_ fun hp => ?_ | refine aC ?_ fun hp => ?_ | refine And.intro ?_ ?_ | clear hK K | clear hX hY X Y | clear hL L)
      all_goals try omega
      refine AWp.loopN 3 fun L hL => ?_
      
      repeat' (first | (refine AWp.join (x := .region 11 _ _) (fun _ : Unit => jP a b 0 (a.past.length + 2) ((State.new :: a.line))) (fun _ => True) ?_ ?_) | refine AWp.seq fun K hK => ?_ | refine hK _ ?_; clear hK K | refine hX ?_; clear hX hY X Y | refine hY ?_; clear hX hY X Y | refine AWp.block ?_ | refine hL _ _ ?_ | ((first | refine AWp.region tok (by rw [hnt]; rfl) ?_ | refine AWp.cond' fun X Y hX hY => ?_ | refine AWp.skip ?_ | refine AWp.exit ?_ | refine AWp.ret ?_ | refine Fin.auto [] ?_ | refine runS_c [] (iStateNew_ok) rfl ?_ ?_ ?_ | refine AWp.draw (id := 11) tok mixed pl_FnWorldWays_ok0 [0] [4, 8] (by kernel_rfl) (by kernel_rfl) (by rw [hnt]; rfl) ?_ | refine effS_c [] (iStateNew_ok) rfl ?_ ?_ ?_ | ((first | apply gR | apply gC | apply gT | apply gE) <;> intro hq <;> (try simp only [nT, nF, n1, n0] at hq) <;> (have hb := hq) <;> (try simp only [dT, dF, eT, eF] at hb) <;> first | (exfalso; omega) | ((try simp only [hq]); clear hq))) <;> (try simp only [go_sem, qa, qb, qc, qd, qe, qf, qg, qh, qi, qj, qk, ql, qm, qn, qo, qp, qq, qr, qs, reduceIte, reduceCtorEq, Two.list, List.getD_cons_succ])) | refine Fits.of ?_ ?_ | refine aL ?_ fun hp => ?_ | refine aE ?_ fun hp => ?_ | refine aC ?_ fun hp => ?_ | refine And.intro ?_ ?_ | clear hK K | clear hX hY X Y | clear hL L)
      all_goals try omega
      all_goals try first
        | refine SLe.auto hk0 [2, 3, 4, 5] ?_; simp only [go_sem, qa, qb, qc, qd, qe, qf, qg, qh, qi, qj, qk, ql, qm, qn, qo, qp, qq, qr, qs, reduceIte, reduceCtorEq, Two.list, List.getD_cons_succ, jP]
          refine ⟨by omega, by omega, ?_⟩
          refine rle_new ?_ ?_ <;> (simp only [go_sem, qa, qb, qc, qd, qe, qf, qg, qh, qi, qj, qk, ql, qm, qn, qo, qp, qq, qr, qs, reduceIte, reduceCtorEq]; done)
        | refine SLe.auto hk0 [3, 4, 5, 6] ?_; simp only [go_sem, qa, qb, qc, qd, qe, qf, qg, qh, qi, qj, qk, ql, qm, qn, qo, qp, qq, qr, qs, reduceIte, reduceCtorEq, Two.list, List.getD_cons_succ, jP]
          refine ⟨by omega, by omega, ?_⟩
          refine rle_new ?_ ?_ <;> (simp only [go_sem, qa, qb, qc, qd, qe, qf, qg, qh, qi, qj, qk, ql, qm, qn, qo, qp, qq, qr, qs, reduceIte, reduceCtorEq]; done)
      intro _ _
      repeat' (first | refine AWp.seq fun K hK => ?_ | refine hK _ ?_; clear hK K | refine hX ?_; clear hX hY X Y | refine hY ?_; clear hX hY X Y | refine AWp.block ?_ | refine hL _ _ ?_ | ((first | refine AWp.region tok (by rw [hnt]; rfl) ?_ | refine AWp.cond' fun X Y hX hY => ?_ | refine AWp.skip ?_ | refine AWp.exit ?_ | refine AWp.ret ?_ | refine Fin.auto [] ?_ | refine AWp.draw (id := 11) tok mixed pl_FnWorldWays_ok0 [0] [4, 8] (by kernel_rfl) (by kernel_rfl) (by rw [hnt]; rfl) ?_ | ((first | apply gR | apply gC | apply gT | apply gE) <;> intro hq <;> (try simp only [nT, nF, n1, n0] at hq) <;> (have hb := hq) <;> (try simp only [dT, dF, eT, eF] at hb) <;> first | (exfalso; omega) | ((try simp only [hq]); clear hq))) <;> (try simp only [go_sem, qa, qb, qc, qd, qe, qf, qg, qh, qi, qj, qk, ql, qm, qn, qo, qp, qq, qr, qs, reduceIte, reduceCtorEq, Two.list, List.getD_cons_succ, jP])) | refine Fits.of ?_ ?_ | refine aL ?_ fun hp => ?_ | refine aE ?_ fun hp => ?_ | refine aC ?_ fun hp => ?_ | refine And.intro ?_ ?_ | clear hK K | clear hX hY X Y | clear hL L)
      all_goals try omega
      refine AWp.loop (fun k : Nat => ⟨[(4, .o (.c (.ptr 0 0 0 0))), (8, .o (I 0)), (9, .o (.c (.sl 1 7 0 (a.past.length + 2)))), (10, .o (I k))], [(0, .box [.t (chainsT (Two.list ⟨a, b⟩))]), (1, .row 7 (a.past.length + 2) (fS (State.new :: a.line)))], 2⟩) (fun k => 1 ≤ k ∧ k ≤ a.past.length + 2) (fun k => a.past.length + 2 - k) 1 (by omega) ?_ ?_
      · refine SLe.auto hk0 [] ?_; simp only [go_sem, qa, qb, qc, qd, qe, qf, qg, qh, qi, qj, qk, ql, qm, qn, qo, qp, qq, qr, qs, reduceIte, reduceCtorEq, Two.list, List.getD_cons_succ]
        all_goals first | rfl | omega | simp
      intro k ⟨hk0', hk⟩
      by_cases hlt : k < a.past.length + 2
      · have M := pw_get (line_new p1 C1) default (k := k) (by omega) (by simp [line_len]; omega)
        have oA := line0_get p1 (k := ((k : Int) - 1).toNat) (by simp [line_len]; omega)
        have oB := line0_get p1 (k := k) (by simp [line_len]; omega)
        obtain ⟨a1, a2, a3, a4, a5, a6, a7, a8, a9⟩ := state_ok oA
        obtain ⟨b1, b2, b3, b4, b5, b6, b7, b8, b9⟩ := state_ok oB
        have m1 := M.ver
        have m2 := M.way
        have m3 := M.opn
        have m4 := M.len
        
        repeat' (first | refine AWp.seq fun K hK => ?_ | refine hK _ ?_; clear hK K | refine hX ?_; clear hX hY X Y | refine hY ?_; clear hX hY X Y | refine AWp.block ?_ | refine hL _ _ ?_ | ((first | refine AWp.region tok (by rw [hnt]; rfl) ?_ | refine AWp.cond' fun X Y hX hY => ?_ | refine AWp.skip ?_ | refine AWp.exit ?_ | refine AWp.ret ?_ | refine Fin.auto [] ?_ | refine AWp.draw (id := 11) tok mixed pl_FnWorldWays_ok0 [1] [4, 8] (by kernel_rfl) (by kernel_rfl) (by rw [hnt]; rfl) ?_ | refine SLe.auto hk0 [] ?_ | ((first | apply gR | apply gC | apply gT | apply gE) <;> intro hq <;> (try simp only [nT, nF, n1, n0] at hq) <;> (have hb := hq) <;> (try simp only [dT, dF, eT, eF] at hb) <;> first | (exfalso; omega) | ((try simp only [hq]); clear hq))) <;> (try simp only [go_sem, qa, qb, qc, qd, qe, qf, qg, qh, qi, qj, qk, ql, qm, qn, qo, qp, qq, qr, qs, reduceIte, reduceCtorEq, Two.list, List.getD_cons_succ])) | refine ⟨k + 1, ?_, ?_, ?_⟩ | refine Fits.of ?_ ?_ | refine aL ?_ fun hp => ?_ | refine aE ?_ fun hp => ?_ | refine aC ?_ fun hp => ?_ | refine And.intro ?_ ?_ | clear hK K | clear hX hY X Y | clear hL L)
        all_goals try (first | omega | (simp only [decide_eq_true_eq, decide_eq_false_iff_not, decide_eq_decide]; omega))
      · skip
        
        repeat' (first | (refine AWp.join (x := .region 11 _ _) (fun _ : Unit => jP a b 1 (b.past.length + 2) ((State.new :: b.line))) (fun _ => True) ?_ ?_) | refine AWp.seq fun K hK => ?_ | refine hK _ ?_; clear hK K | refine hX ?_; clear hX hY X Y | refine hY ?_; clear hX hY X Y | refine AWp.block ?_ | refine hL _ _ ?_ | ((first | refine AWp.region tok (by rw [hnt]; rfl) ?_ | refine AWp.cond' fun X Y hX hY => ?_ | refine AWp.skip ?_ | refine AWp.exit ?_ | refine AWp.ret ?_ | refine Fin.auto [] ?_ | refine runS_c [] (iStateNew_ok) rfl ?_ ?_ ?_ | refine AWp.draw (id := 11) tok mixed pl_FnWorldWays_ok0 [0] [4, 8] (by kernel_rfl) (by kernel_rfl) (by rw [hnt]; rfl) ?_ | refine effS_c [] (iStateNew_ok) rfl ?_ ?_ ?_ | ((first | apply gR | apply gC | apply gT | apply gE) <;> intro hq <;> (try simp only [nT, nF, n1, n0] at hq) <;> (have hb := hq) <;> (try simp only [dT, dF, eT, eF] at hb) <;> first | (exfalso; omega) | ((try simp only [hq]); clear hq))) <;> (try simp only [go_sem, qa, qb, qc, qd, qe, qf, qg, qh, qi, qj, qk, ql, qm, qn, qo, qp, qq, qr, qs, reduceIte, reduceCtorEq, Two.list, List.getD_cons_succ])) | refine Fits.of ?_ ?_ | refine aL ?_ fun hp => ?_ | refine aE ?_ fun hp => ?_ | refine aC ?_ fun hp => ?_ | refine And.intro ?_ ?_ | clear hK K | clear hX hY X Y | clear hL L)
        all_goals try omega
        all_goals try first
          | refine SLe.auto hk0 [2, 3, 4, 5] ?_; simp only [go_sem, qa, qb, qc, qd, qe, qf, qg, qh, qi, qj, qk, ql, qm, qn, qo, qp, qq, qr, qs, reduceIte, reduceCtorEq, Two.list, List.getD_cons_succ, jP]
            refine ⟨by omega, by omega, ?_⟩
            refine rle_new ?_ ?_ <;> (simp only [go_sem, qa, qb, qc, qd, qe, qf, qg, qh, qi, qj, qk, ql, qm, qn, qo, qp, qq, qr, qs, reduceIte, reduceCtorEq]; done)
          | refine SLe.auto hk0 [3, 4, 5, 6] ?_; simp only [go_sem, qa, qb, qc, qd, qe, qf, qg, qh, qi, qj, qk, ql, qm, qn, qo, qp, qq, qr, qs, reduceIte, reduceCtorEq, Two.list, List.getD_cons_succ, jP]
            refine ⟨by omega, by omega, ?_⟩
            refine rle_new ?_ ?_ <;> (simp only [go_sem, qa, qb, qc, qd, qe, qf, qg, qh, qi, qj, qk, ql, qm, qn, qo, qp, qq, qr, qs, reduceIte, reduceCtorEq]; done)
        intro _ _
        repeat' (first | refine AWp.seq fun K hK => ?_ | refine hK _ ?_; clear hK K | refine hX ?_; clear hX hY X Y | refine hY ?_; clear hX hY X Y | refine AWp.block ?_ | refine hL _ _ ?_ | ((first | refine AWp.region tok (by rw [hnt]; rfl) ?_ | refine AWp.cond' fun X Y hX hY => ?_ | refine AWp.skip ?_ | refine AWp.exit ?_ | refine AWp.ret ?_ | refine Fin.auto [] ?_ | refine AWp.draw (id := 11) tok mixed pl_FnWorldWays_ok0 [0] [4, 8] (by kernel_rfl) (by kernel_rfl) (by rw [hnt]; rfl) ?_ | ((first | apply gR | apply gC | apply gT | apply gE) <;> intro hq <;> (try simp only [nT, nF, n1, n0] at hq) <;> (have hb := hq) <;> (try simp only [dT, dF, eT, eF] at hb) <;> first | (exfalso; omega) | ((try simp only [hq]); clear hq))) <;> (try simp only [go_sem, qa, qb, qc, qd, qe, qf, qg, qh, qi, qj, qk, ql, qm, qn, qo, qp, qq, qr, qs, reduceIte, reduceCtorEq, Two.list, List.getD_cons_succ, jP])) | refine Fits.of ?_ ?_ | refine aL ?_ fun hp => ?_ | refine aE ?_ fun hp => ?_ | refine aC ?_ fun hp => ?_ | refine And.intro ?_ ?_ | clear hK K | clear hX hY X Y | clear hL L)
        all_goals try omega
        refine AWp.loop (fun k : Nat => ⟨[(4, .o (.c (.ptr 0 0 0 0))), (8, .o (I 1)), (9, .o (.c (.sl 1 7 0 (b.past.length + 2)))), (10, .o (I k))], [(0, .box [.t (chainsT (Two.list ⟨a, b⟩))]), (1, .row 7 (b.past.length + 2) (fS (State.new :: b.line)))], 2⟩) (fun k => 1 ≤ k ∧ k ≤ b.past.length + 2) (fun k => b.past.length + 2 - k) 1 (by omega) ?_ ?_
        · refine SLe.auto hk0 [] ?_; simp only [go_sem, qa, qb, qc, qd, qe, qf, qg, qh, qi, qj, qk, ql, qm, qn, qo, qp, qq, qr, qs, reduceIte, reduceCtorEq, Two.list, List.getD_cons_succ]
          all_goals first | rfl | omega | simp
        intro k ⟨hk0', hk⟩
        by_cases hlt : k < b.past.length + 2
        · have M := pw_get (line_new p2 C2) default (k := k) (by omega) (by simp [line_len]; omega)
          have oA := line0_get p2 (k := ((k : Int) - 1).toNat) (by simp [line_len]; omega)
          have oB := line0_get p2 (k := k) (by simp [line_len]; omega)
          obtain ⟨a1, a2, a3, a4, a5, a6, a7, a8, a9⟩ := state_ok oA
          obtain ⟨b1, b2, b3, b4, b5, b6, b7, b8, b9⟩ := state_ok oB
          have m1 := M.ver
          have m2 := M.way
          have m3 := M.opn
          have m4 := M.len
          
          repeat' (first | refine AWp.seq fun K hK => ?_ | refine hK _ ?_; clear hK K | refine hX ?_; clear hX hY X Y | refine hY ?_; clear hX hY X Y | refine AWp.block ?_ | refine hL _ _ ?_ | ((first | refine AWp.region tok (by rw [hnt]; rfl) ?_ | refine AWp.cond' fun X Y hX hY => ?_ | refine AWp.skip ?_ | refine AWp.exit ?_ | refine AWp.ret ?_ | refine Fin.auto [] ?_ | refine AWp.draw (id := 11) tok mixed pl_FnWorldWays_ok0 [1] [4, 8] (by kernel_rfl) (by kernel_rfl) (by rw [hnt]; rfl) ?_ | refine SLe.auto hk0 [] ?_ | ((first | apply gR | apply gC | apply gT | apply gE) <;> intro hq <;> (try simp only [nT, nF, n1, n0] at hq) <;> (have hb := hq) <;> (try simp only [dT, dF, eT, eF] at hb) <;> first | (exfalso; omega) | ((try simp only [hq]); clear hq))) <;> (try simp only [go_sem, qa, qb, qc, qd, qe, qf, qg, qh, qi, qj, qk, ql, qm, qn, qo, qp, qq, qr, qs, reduceIte, reduceCtorEq, Two.list, List.getD_cons_succ])) | refine ⟨k + 1, ?_, ?_, ?_⟩ | refine Fits.of ?_ ?_ | refine aL ?_ fun hp => ?_ | refine aE ?_ fun hp => ?_ | refine aC ?_ fun hp => ?_ | refine And.intro ?_ ?_ | clear hK K | clear hX hY X Y | clear hL L)
          all_goals try (first | omega | (simp only [decide_eq_true_eq, decide_eq_false_iff_not, decide_eq_decide]; omega))
        · repeat' (first | refine AWp.seq fun K hK => ?_ | refine hK _ ?_; clear hK K | refine hX ?_; clear hX hY X Y | refine hY ?_; clear hX hY X Y | refine AWp.block ?_ | refine hL _ _ ?_ | ((first | refine AWp.region tok (by rw [hnt]; rfl) ?_ | refine AWp.cond' fun X Y hX hY => ?_ | refine AWp.skip ?_ | refine AWp.exit ?_ | refine AWp.ret ?_ | refine Fin.auto [] ?_ | refine AWp.draw (id := 11) tok mixed pl_FnWorldWays_ok0 [1] [4, 8] (by kernel_rfl) (by kernel_rfl) (by rw [hnt]; rfl) ?_ | ((first | apply gR | apply gC | apply gT | apply gE) <;> intro hq <;> (try simp only [nT, nF, n1, n0] at hq) <;> (have hb := hq) <;> (try simp only [dT, dF, eT, eF] at hb) <;> first | (exfalso; omega) | ((try simp only [hq]); clear hq))) <;> (try simp only [go_sem, qa, qb, qc, qd, qe, qf, qg, qh, qi, qj, qk, ql, qm, qn, qo, qp, qq, qr, qs, reduceIte, reduceCtorEq, Two.list, List.getD_cons_succ])) | refine Fits.of ?_ ?_ | refine aL ?_ fun hp => ?_ | refine aE ?_ fun hp => ?_ | refine aC ?_ fun hp => ?_ | refine And.intro ?_ ?_ | clear hK K | clear hX hY X Y | clear hL L)
          all_goals try omega
    · have cL := lwWorld_ok [] [] nil_fit (by simp)
      rw [decide_eq_true rfl] at cL
      repeat' (first | refine AWp.seq fun K hK => ?_ | refine hK _ ?_; clear hK K | refine hX ?_; clear hX hY X Y | refine hY ?_; clear hX hY X Y | refine AWp.block ?_ | refine hL _ _ ?_ | ((first | refine AWp.region tok (by rw [hnt]; rfl) ?_ | refine AWp.cond' fun X Y hX hY => ?_ | refine AWp.skip ?_ | refine AWp.exit ?_ | refine AWp.ret ?_ | refine Fin.auto [] ?_ | refine runS_c [] (iWorldPlay_no es (by omega)) rfl ?_ ?_ ?_ | refine runS_c [] (WorldPlay_no es (by omega)) rfl ?_ ?_ ?_ | refine runS_c [] (cL) rfl ?_ ?_ ?_ | refine AWp.draw (id := 11) tok mixed pl_FnWorldWays_ok0 [1] [4, 8] (by kernel_rfl) (by kernel_rfl) (by rw [hnt]; rfl) ?_ | refine effS_c [] (iWorldPlay_no es (by omega)) rfl ?_ ?_ ?_ | refine effS_c [] (WorldPlay_no es (by omega)) rfl ?_ ?_ ?_ | refine effS_c [] (cL) rfl ?_ ?_ ?_ | ((first | apply gR | apply gC | apply gT | apply gE) <;> intro hq <;> (try simp only [nT, nF, n1, n0] at hq) <;> (have hb := hq) <;> (try simp only [dT, dF, eT, eF] at hb) <;> first | (exfalso; omega) | ((try simp only [hq]); clear hq))) <;> (try simp only [go_sem, qa, qb, qc, qd, qe, qf, qg, qh, qi, qj, qk, ql, qm, qn, qo, qp, qq, qr, qs, reduceIte, reduceCtorEq])) | refine Fits.of ?_ ?_ | refine aL ?_ fun hp => ?_ | refine aE ?_ fun hp => ?_ | refine aC ?_ fun hp => ?_ | refine And.intro ?_ ?_ | clear hK K | clear hX hY X Y | clear hL L)
      all_goals try omega
  · refine CallX.of tok Tryz.func10 rfl rfl Tryz.ntmps10 Tryz.results10 rfl (by decide) (fun cx hnt hk0 => ?_)
    repeat' (first | refine AWp.seq fun K hK => ?_ | refine hK _ ?_; clear hK K | refine hX ?_; clear hX hY X Y | refine hY ?_; clear hX hY X Y | refine AWp.block ?_ | refine hL _ _ ?_ | ((first | refine AWp.region tok (by rw [hnt]; rfl) ?_ | refine AWp.cond' fun X Y hX hY => ?_ | refine AWp.skip ?_ | refine AWp.exit ?_ | refine AWp.ret ?_ | refine Fin.auto [] ?_ | refine AWp.draw (id := 11) tok mixed pl_FnWorldWays_ok0 [] [4, 8] (by kernel_rfl) (by kernel_rfl) (by rw [hnt]; rfl) ?_ | ((first | apply gR | apply gC | apply gT | apply gE) <;> intro hq <;> (try simp only [nT, nF, n1, n0] at hq) <;> (have hb := hq) <;> (try simp only [dT, dF, eT, eF] at hb) <;> first | (exfalso; omega) | ((try simp only [hq]); clear hq))) <;> (try simp only [go_sem, qa, qb, qc, qd, qe, qf, qg, qh, qi, qj, qk, ql, qm, qn, qo, qp, qq, qr, qs, reduceIte, reduceCtorEq])) | refine Fits.of ?_ ?_ | refine aL ?_ fun hp => ?_ | refine aE ?_ fun hp => ?_ | refine aC ?_ fun hp => ?_ | refine And.intro ?_ ?_ | clear hK K | clear hX hY X Y | clear hL L)
    all_goals try omega
end Go.Hw
