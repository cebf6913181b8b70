/- What is proved here: parts LPlayCrowd of the walk of the law and of its plain side; no condition but those that each theorem states. -/
import Derived.Test.YtcbceacjhmblnaaGreatF1
import Derived.Test.YtcbceacjhmblnaaGreatW63
import Derived.Test.YtcbceacjhmblnaaGreatW64
import Derived.Test.YtcbceacjhmblnaaGreatD8
/- What is proved: nobody has what nobody sent. -/
set_option linter.all false
set_option maxRecDepth 100000
set_option maxHeartbeats 16000000
namespace Go.Hw
open Go.Proofs
open Nat renaming reduceDiv → qa, reduceMod → qb, reduceAdd → qc, reduceMul → qd, reduceSub → qe, reduceLeDiff → qf, reduceBEq → qg, reduceEqDiff → qh, reduceBeqDiff → qi, reduceLT → qj
open Int renaming reduceToNat → qk, reduceAdd → ql, reduceSub → qm, reduceNeg → qn, reduceLT → qo, reduceLE → qp, reduceEq → qq, reduceBEq → qr, reduceBNe → qs
open Go.Hw renaming runG_split → gR, condG_split → gC, takG_split → gT, effG_split → gE
def pl_own_sum0 : Plan := (.tak 0 (.tak 1 (.tak 2 (.tak 3 (.tak 4 (.tak 5 (.tak 6 (.tak 7 (.tak 8 (.tak 9 .done))))))))))
attribute [go_sem] pl_own_sum0
theorem own_sum {b : Bank} (h : b.ok = true) (hl : b.locked = 0) : b.own.getD 0 0 + b.own.getD 1 0 + b.own.getD 2 0 = 30 := by
  obtain ⟨h1, h2, h3, h4, h5⟩ := bank_ok h
  obtain ⟨o1, o2, o3, e, r1, r2, r3⟩ := parts_iff.1 h1
  rw [e, isum3] at h4
  rw [e]
  show o1 + o2 + o3 = 30
  omega
theorem FnPlayCrowd_ok (l : List Int) (hb0 : ∀ i, 0 ≤ l.getD i 0 ∧ l.getD i 0 ≤ 255) : Call Tryz.prog 13 [.c (.t (bytesT l))] [] 0 (.o (BB true)) [] 0 := by
  by_cases hlen : (l.length : Int) ≤ 1048576
  · refine CallX.of tok Tryz.func13 rfl rfl Tryz.ntmps13 Tryz.results13 rfl (by decide) (fun cx hnt hk0 => ?_)
    repeat' (first | refine AWp.seq fun K hK => ?_ | refine hK _ ?_; clear hK K | refine hX ?_; clear hX hY X Y | refine hY ?_; clear hX hY X Y | refine AWp.block ?_ | refine hL _ _ ?_ | ((first | refine AWp.region tok (by rw [hnt]; rfl) ?_ | refine AWp.cond' fun X Y hX hY => ?_ | refine AWp.skip ?_ | refine AWp.exit ?_ | refine AWp.ret ?_ | refine Fin.auto [] ?_ | refine runS_at [] (DrawWorldPlay_ok l hb0 hlen) rfl ?_ ?_ (fun es hes => ?_) | refine AWp.draw (id := 22) tok mixed pl_own_sum0 [] [14] (by kernel_rfl) (by kernel_rfl) (by rw [hnt]; rfl) ?_ | refine effS_at [] (DrawWorldPlay_ok l hb0 hlen) rfl ?_ ?_ (fun es hes => ?_) | ((first | apply gR | apply gC | apply gT | apply gE) <;> intro hq <;> (try simp only [nT, nF, n1, n0] at hq) <;> (have hb := hq) <;> (try simp only [dT, dF, eT, eF] at hb) <;> first | (exfalso; omega) | ((try simp only [hq]); clear hq))) <;> (try simp only [go_sem, qa, qb, qc, qd, qe, qf, qg, qh, qi, qj, qk, ql, qm, qn, qo, qp, qq, qr, qs, reduceIte, reduceCtorEq])) | refine Fits.of ?_ ?_ | refine aL ?_ fun hp => ?_ | refine aE ?_ fun hp => ?_ | refine aC ?_ fun hp => ?_ | refine And.intro ?_ ?_ | clear hK K | clear hX hY X Y | clear hL L)
    all_goals try omega
    by_cases h60 : es.length ≤ 60
    · have wi := winv_play es
      have cI := iWorldPlay_ok es h60
      have cS := WorldPlay_ok es h60
      generalize Two.new.play es = w at wi cI cS
      obtain ⟨a, b⟩ := w
      have wok : wOk [a, b] = true := wi.ok
      have C1 : CInv a := wi.ca
      have C2 : CInv b := wi.cb
      have D1 : LInv a b := wi.ab
      have D2 : LInv b a := wi.ba
      obtain ⟨p1, p2, p3, p4, p5, p6⟩ := wOk_iff.1 wok
      have cL := lwWorld_ok (Two.list ⟨a, b⟩) (Two.list ⟨a, b⟩) (two_fit wi.ok) (by simp [Two.list])
      rw [decide_eq_true rfl] at cL
      obtain ⟨q1, q2, q3, q4, q5, q6⟩ := chain_ok p1
      obtain ⟨u1, u2, u3, u4, u5, u6⟩ := chain_ok p2
      obtain ⟨r1, r2, r3, r4, r5, r6, r7, r8, r9⟩ := state_ok q3
      obtain ⟨t1, t2, t3, t4, t5, t6, t7, t8, t9⟩ := state_ok u3
      have q7 := knows_len q6
      have u7 := knows_len u6
      repeat' (first | refine AWp.seq fun K hK => ?_ | refine hK _ ?_; clear hK K | refine hX ?_; clear hX hY X Y | refine hY ?_; clear hX hY X Y | refine AWp.block ?_ | refine hL _ _ ?_ | ((first | refine AWp.region tok (by rw [hnt]; rfl) ?_ | refine AWp.cond' fun X Y hX hY => ?_ | refine AWp.skip ?_ | refine AWp.exit ?_ | refine AWp.ret ?_ | refine Fin.auto [] ?_ | refine runS_c [] (cI) rfl ?_ ?_ ?_ | refine runS_c [] (cS) rfl ?_ ?_ ?_ | refine runS_c [] (cL) rfl ?_ ?_ ?_ | refine AWp.draw (id := 22) tok mixed pl_own_sum0 [] [14] (by kernel_rfl) (by kernel_rfl) (by rw [hnt]; rfl) ?_ | refine effS_c [] (cI) rfl ?_ ?_ ?_ | refine effS_c [] (cS) rfl ?_ ?_ ?_ | refine effS_c [] (cL) rfl ?_ ?_ ?_ | ((first | apply gR | apply gC | apply gT | apply gE) <;> intro hq <;> (try simp only [nT, nF, n1, n0] at hq) <;> (have hb := hq) <;> (try simp only [dT, dF, eT, eF] at hb) <;> first | (exfalso; omega) | ((try simp only [hq]); clear hq))) <;> (try simp only [go_sem, qa, qb, qc, qd, qe, qf, qg, qh, qi, qj, qk, ql, qm, qn, qo, qp, qq, qr, qs, reduceIte, reduceCtorEq])) | refine Fits.of ?_ ?_ | refine aL ?_ fun hp => ?_ | refine aE ?_ fun hp => ?_ | refine aC ?_ fun hp => ?_ | refine And.intro ?_ ?_ | clear hK K | clear hX hY X Y | clear hL L)
      all_goals try omega
      have hd := less_play es
      have cX := iWorldPlay_ok (less es) (by have := less_len es; omega)
      have wx : wOk (Two.new.play (less es)).list = true := (winv_play (less es)).ok
      generalize Two.new.play (less es) = x at hd cX wx
      obtain ⟨xa, xb⟩ := x
      have wx' : wOk [xa, xb] = true := wx
      obtain ⟨G1, G2⟩ := hd
      have G1 : Hush xa := G1
      have G2 : Hush xb := G2
      have cD := iSumDone_yes xa xb wx' G1.live G2.live
      obtain ⟨y1, y2, _⟩ := wOk_iff.1 wx'
      have z1 := (chain_ok y1).2.1
      have z2 := (chain_ok y2).2.1
      have f1 := own_sum z1 G1.lock
      have f2 := own_sum z2 G2.lock
      have e1 := parts_get (bank_ok z1).1
      have e2 := parts_get (bank_ok z2).1
      have i0 := e1 0
      have i1 := e1 1
      have i2 := e1 2
      have j0 := e2 0
      have j1 := e2 1
      have j2 := e2 2
      have nA := G1.notes
      have nB := G2.notes
      refine AWp.loop (fun i : Nat => ⟨[(3, .o (.c (.t (eventsT es)))), (8, .o (.c (.sl 0 11 0 (less (es.take i)).length))), (9, .o (I i))], [(0, rE (less (es.take i)))], 1⟩) (fun i => i ≤ es.length) (fun i => es.length - i) 0 (Nat.zero_le _) ?_ ?_
      · refine SLe.auto hk0 [] ?_; simp only [go_sem, qa, qb, qc, qd, qe, qf, qg, qh, qi, qj, qk, ql, qm, qn, qo, qp, qq, qr, qs, reduceIte, reduceCtorEq, List.take_zero, less, List.filter_nil, List.length_nil]
        all_goals first | rfl | omega | simp
      intro i hi
      by_cases hlt : i < es.length
      · have e0 := less_step es i hlt
        have n1 : (less (es.take i)).length ≤ 60 := by
          have := less_len (es.take i)
          have := List.length_take_le i es
          omega
        by_cases hk2 : (es.getD i default).kind = 3
        · rw [if_pos hk2, List.append_nil] at e0
          repeat' (first | refine AWp.seq fun K hK => ?_ | refine hK _ ?_; clear hK K | refine hX ?_; clear hX hY X Y | refine hY ?_; clear hX hY X Y | refine AWp.block ?_ | refine hL _ _ ?_ | ((first | refine AWp.region tok (by rw [hnt]; rfl) ?_ | refine AWp.cond' fun X Y hX hY => ?_ | refine AWp.skip ?_ | refine AWp.exit ?_ | refine AWp.ret ?_ | refine Fin.auto [] ?_ | refine AWp.draw (id := 22) tok mixed pl_own_sum0 [] [14] (by kernel_rfl) (by kernel_rfl) (by rw [hnt]; rfl) ?_ | refine SLe.auto hk0 [] ?_ | ((first | apply gR | apply gC | apply gT | apply gE) <;> intro hq <;> (try simp only [nT, nF, n1, n0] at hq) <;> (have hb := hq) <;> (try simp only [dT, dF, eT, eF] at hb) <;> first | (exfalso; omega) | ((try simp only [hq]); clear hq))) <;> (try simp only [go_sem, qa, qb, qc, qd, qe, qf, qg, qh, qi, qj, qk, ql, qm, qn, qo, qp, qq, qr, qs, reduceIte, reduceCtorEq, e0])) | refine ⟨i + 1, ?_, ?_, ?_⟩ | refine Fits.of ?_ ?_ | refine aL ?_ fun hp => ?_ | refine aE ?_ fun hp => ?_ | refine aC ?_ fun hp => ?_ | refine And.intro ?_ ?_ | clear hK K | clear hX hY X Y | clear hL L)
          all_goals try (first | omega | (simp only [decide_eq_true_eq, decide_eq_false_iff_not, decide_eq_decide]; omega))
        · rw [if_neg hk2] at e0
          repeat' (first | refine AWp.seq fun K hK => ?_ | refine hK _ ?_; clear hK K | refine hX ?_; clear hX hY X Y | refine hY ?_; clear hX hY X Y | refine AWp.block ?_ | refine hL _ _ ?_ | ((first | refine AWp.region tok (by rw [hnt]; rfl) ?_ | refine AWp.cond' fun X Y hX hY => ?_ | refine AWp.skip ?_ | refine AWp.exit ?_ | refine AWp.ret ?_ | refine Fin.auto [] ?_ | refine AWp.draw (id := 22) tok mixed pl_own_sum0 [] [14] (by kernel_rfl) (by kernel_rfl) (by rw [hnt]; rfl) ?_ | refine SLe.auto hk0 [] ?_ | ((first | apply gR | apply gC | apply gT | apply gE) <;> intro hq <;> (try simp only [nT, nF, n1, n0] at hq) <;> (have hb := hq) <;> (try simp only [dT, dF, eT, eF] at hb) <;> first | (exfalso; omega) | ((try simp only [hq]); clear hq))) <;> (try simp only [go_sem, qa, qb, qc, qd, qe, qf, qg, qh, qi, qj, qk, ql, qm, qn, qo, qp, qq, qr, qs, reduceIte, reduceCtorEq, e0])) | refine ⟨i + 1, ?_, ?_, ?_⟩ | refine Fits.of ?_ ?_ | refine aL ?_ fun hp => ?_ | refine aE ?_ fun hp => ?_ | refine aC ?_ fun hp => ?_ | refine And.intro ?_ ?_ | clear hK K | clear hX hY X Y | clear hL L)
          all_goals try (first | omega | (simp only [decide_eq_true_eq, decide_eq_false_iff_not, decide_eq_decide]; omega))
      · have e9 : es.take i = es := List.take_of_length_le (by omega)
        rw [e9]
        refine AWp.le (s' := ⟨[(3, .o (.c (.t (eventsT es)))), (8, .o (.c (.t (eventsT (less es))))), (9, .o (I i))], [], 0⟩) ?_ ?_
        · refine SLe.auto hk0 [0] ?_; simp only [go_sem, qa, qb, qc, qd, qe, qf, qg, qh, qi, qj, qk, ql, qm, qn, qo, qp, qq, qr, qs, reduceIte, reduceCtorEq]
        repeat' (first | refine AWp.seq fun K hK => ?_ | refine hK _ ?_; clear hK K | refine hX ?_; clear hX hY X Y | refine hY ?_; clear hX hY X Y | refine AWp.block ?_ | refine hL _ _ ?_ | ((first | refine AWp.region tok (by rw [hnt]; rfl) ?_ | refine AWp.cond' fun X Y hX hY => ?_ | refine AWp.skip ?_ | refine AWp.exit ?_ | refine AWp.ret ?_ | refine Fin.auto [] ?_ | refine runS_c [] (cX) rfl ?_ ?_ ?_ | refine AWp.draw (id := 22) tok mixed pl_own_sum0 [] [14] (by kernel_rfl) (by kernel_rfl) (by rw [hnt]; rfl) ?_ | refine effS_c [] (cX) rfl ?_ ?_ ?_ | ((first | apply gR | apply gC | apply gT | apply gE) <;> intro hq <;> (try simp only [nT, nF, n1, n0] at hq) <;> (have hb := hq) <;> (try simp only [dT, dF, eT, eF] at hb) <;> first | (exfalso; omega) | ((try simp only [hq]); clear hq))) <;> (try simp only [go_sem, qa, qb, qc, qd, qe, qf, qg, qh, qi, qj, qk, ql, qm, qn, qo, qp, qq, qr, qs, reduceIte, reduceCtorEq])) | refine Fits.of ?_ ?_ | refine aL ?_ fun hp => ?_ | refine aE ?_ fun hp => ?_ | refine aC ?_ fun hp => ?_ | refine And.intro ?_ ?_ | clear hK K | clear hX hY X Y | clear hL L)
        all_goals try omega
        refine AWp.loopN 4 fun L hL => ?_
        
        repeat' (first | refine AWp.seq fun K hK => ?_ | refine hK _ ?_; clear hK K | refine hX ?_; clear hX hY X Y | refine hY ?_; clear hX hY X Y | refine AWp.block ?_ | refine hL _ _ ?_ | ((first | refine AWp.region tok (by rw [hnt]; rfl) ?_ | refine AWp.cond' fun X Y hX hY => ?_ | refine AWp.skip ?_ | refine AWp.exit ?_ | refine AWp.ret ?_ | refine Fin.auto [] ?_ | refine runS_c [] (iSumUser_yes xa xb wx' 1 (by omega) (by omega)) rfl ?_ ?_ ?_ | refine runS_c [] (iSumUser_yes xa xb wx' 2 (by omega) (by omega)) rfl ?_ ?_ ?_ | refine runS_c [] (iSumUser_yes xa xb wx' 3 (by omega) (by omega)) rfl ?_ ?_ ?_ | refine runS_c [] (cD) rfl ?_ ?_ ?_ | refine AWp.draw (id := 22) tok mixed pl_own_sum0 [1, 2, 3] [14] (by kernel_rfl) (by kernel_rfl) (by rw [hnt]; rfl) ?_ | refine effS_c [] (iSumUser_yes xa xb wx' 1 (by omega) (by omega)) rfl ?_ ?_ ?_ | refine effS_c [] (iSumUser_yes xa xb wx' 2 (by omega) (by omega)) rfl ?_ ?_ ?_ | refine effS_c [] (iSumUser_yes xa xb wx' 3 (by omega) (by omega)) rfl ?_ ?_ ?_ | refine effS_c [] (cD) rfl ?_ ?_ ?_ | ((first | apply gR | apply gC | apply gT | apply gE) <;> intro hq <;> (try simp only [nT, nF, n1, n0] at hq) <;> (have hb := hq) <;> (try simp only [dT, dF, eT, eF] at hb) <;> first | (exfalso; omega) | ((try simp only [hq]); clear hq))) <;> (try simp only [go_sem, qa, qb, qc, qd, qe, qf, qg, qh, qi, qj, qk, ql, qm, qn, qo, qp, qq, qr, qs, reduceIte, reduceCtorEq, Two.list, List.getD_cons_succ, sumU, nA, nB, List.getD_cons_zero])) | refine Fits.of ?_ ?_ | refine aL ?_ fun hp => ?_ | refine aE ?_ fun hp => ?_ | refine aC ?_ fun hp => ?_ | refine And.intro ?_ ?_ | clear hK K | clear hX hY X Y | clear hL L)
        all_goals try omega
    · have cL := lwWorld_ok [] [] nil_fit (by simp)
      rw [decide_eq_true rfl] at cL
      repeat' (first | refine AWp.seq fun K hK => ?_ | refine hK _ ?_; clear hK K | refine hX ?_; clear hX hY X Y | refine hY ?_; clear hX hY X Y | refine AWp.block ?_ | refine hL _ _ ?_ | ((first | refine AWp.region tok (by rw [hnt]; rfl) ?_ | refine AWp.cond' fun X Y hX hY => ?_ | refine AWp.skip ?_ | refine AWp.exit ?_ | refine AWp.ret ?_ | refine Fin.auto [] ?_ | refine runS_c [] (iWorldPlay_no es (by omega)) rfl ?_ ?_ ?_ | refine runS_c [] (WorldPlay_no es (by omega)) rfl ?_ ?_ ?_ | refine runS_c [] (cL) rfl ?_ ?_ ?_ | refine AWp.draw (id := 22) tok mixed pl_own_sum0 [1, 2, 3] [14] (by kernel_rfl) (by kernel_rfl) (by rw [hnt]; rfl) ?_ | refine effS_c [] (iWorldPlay_no es (by omega)) rfl ?_ ?_ ?_ | refine effS_c [] (WorldPlay_no es (by omega)) rfl ?_ ?_ ?_ | refine effS_c [] (cL) rfl ?_ ?_ ?_ | ((first | apply gR | apply gC | apply gT | apply gE) <;> intro hq <;> (try simp only [nT, nF, n1, n0] at hq) <;> (have hb := hq) <;> (try simp only [dT, dF, eT, eF] at hb) <;> first | (exfalso; omega) | ((try simp only [hq]); clear hq))) <;> (try simp only [go_sem, qa, qb, qc, qd, qe, qf, qg, qh, qi, qj, qk, ql, qm, qn, qo, qp, qq, qr, qs, reduceIte, reduceCtorEq])) | refine Fits.of ?_ ?_ | refine aL ?_ fun hp => ?_ | refine aE ?_ fun hp => ?_ | refine aC ?_ fun hp => ?_ | refine And.intro ?_ ?_ | clear hK K | clear hX hY X Y | clear hL L)
      all_goals try omega
  · refine CallX.of tok Tryz.func13 rfl rfl Tryz.ntmps13 Tryz.results13 rfl (by decide) (fun cx hnt hk0 => ?_)
    repeat' (first | refine AWp.seq fun K hK => ?_ | refine hK _ ?_; clear hK K | refine hX ?_; clear hX hY X Y | refine hY ?_; clear hX hY X Y | refine AWp.block ?_ | refine hL _ _ ?_ | ((first | refine AWp.region tok (by rw [hnt]; rfl) ?_ | refine AWp.cond' fun X Y hX hY => ?_ | refine AWp.skip ?_ | refine AWp.exit ?_ | refine AWp.ret ?_ | refine Fin.auto [] ?_ | refine AWp.draw (id := 22) tok mixed pl_own_sum0 [] [14] (by kernel_rfl) (by kernel_rfl) (by rw [hnt]; rfl) ?_ | ((first | apply gR | apply gC | apply gT | apply gE) <;> intro hq <;> (try simp only [nT, nF, n1, n0] at hq) <;> (have hb := hq) <;> (try simp only [dT, dF, eT, eF] at hb) <;> first | (exfalso; omega) | ((try simp only [hq]); clear hq))) <;> (try simp only [go_sem, qa, qb, qc, qd, qe, qf, qg, qh, qi, qj, qk, ql, qm, qn, qo, qp, qq, qr, qs, reduceIte, reduceCtorEq])) | refine Fits.of ?_ ?_ | refine aL ?_ fun hp => ?_ | refine aE ?_ fun hp => ?_ | refine aC ?_ fun hp => ?_ | refine And.intro ?_ ?_ | clear hK K | clear hX hY X Y | clear hL L)
    all_goals try omega
end Go.Hw
