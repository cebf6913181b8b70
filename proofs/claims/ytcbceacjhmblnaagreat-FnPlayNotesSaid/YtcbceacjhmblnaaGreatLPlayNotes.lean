/- What is proved here: parts LPlayNotes of the walk of the law and of its plain side; no condition but those that each theorem states. -/
import Derived.Test.YtcbceacjhmblnaaGreatF1
import Derived.Test.YtcbceacjhmblnaaGreatW64
import Derived.Test.YtcbceacjhmblnaaGreatW73
/- What is proved: behind a play notes are as many as coins are locked. -/
set_option linter.all false
set_option maxRecDepth 100000
set_option maxHeartbeats 16000000
namespace Go.Hw
open Go.Proofs
open Nat renaming reduceDiv → qa, reduceMod → qb, reduceAdd → qc, reduceMul → qd, reduceSub → qe, reduceLeDiff → qf, reduceBEq → qg, reduceEqDiff → qh, reduceBeqDiff → qi, reduceLT → qj
open Int renaming reduceToNat → qk, reduceAdd → ql, reduceSub → qm, reduceNeg → qn, reduceLT → qo, reduceLE → qp, reduceEq → qq, reduceBEq → qr, reduceBNe → qs
open Go.Hw renaming runG_split → gR, condG_split → gC, takG_split → gT, effG_split → gE
def pl_isum_30 : Plan := (.tak 0 (.tak 1 (.tak 2 (.tak 3 (.tak 4 (.tak 5 (.tak 6 (.tak 7 (.tak 8 (.tak 9 (.tak 10 (.tak 11 (.tak 12 (.tak 13 (.tak 14 (.tak 15 (.tak 16 (.tak 17 .done))))))))))))))))))
attribute [go_sem] pl_isum_30
def pl_isum_31 : Plan := (.tak 0 (.tak 2 (.tak 5 (.tak 8 (.all (.cons 1 (.all (.cons 3 (.tak 4 (.all (.cons 6 (.tak 7 (.all (.cons 9 (.tak 10 (.tak 11 .done)) .nil))) .nil))) .nil)) .nil))))))
attribute [go_sem] pl_isum_31
def pl_isum_32 : Plan := (.tak 0 (.tak 2 (.tak 3 (.tak 4 (.tak 5 (.tak 6 (.tak 7 (.all (.cons 1 (.tak 8 (.tak 9 (.tak 10 (.tak 12 (.tak 13 (.tak 14 (.tak 15 (.tak 16 (.tak 17 (.all (.cons 11 (.tak 18 (.tak 19 (.tak 20 (.tak 21 (.tak 22 (.tak 23 (.tak 24 (.tak 25 (.tak 26 .done))))))))) .nil))))))))))) .nil)))))))))
attribute [go_sem] pl_isum_32
/-- What all users have. -/
theorem isum_3 {l : List Int} (h : parts l = true) : isum l = l.getD 0 0 + l.getD 1 0 + l.getD 2 0 := by
  obtain ⟨a, b, c, rfl, _⟩ := parts_iff.1 h
  exact isum3 a b c
theorem FnPlayNotes_ok (l : List Int) (hb0 : ∀ i, 0 ≤ l.getD i 0 ∧ l.getD i 0 ≤ 255) : Call Tryz.prog 16 [.c (.t (bytesT l))] [] 0 (.o (BB true)) [] 0 := by
  by_cases hlen : (l.length : Int) ≤ 1048576
  · refine CallX.of tok Tryz.func16 rfl rfl Tryz.ntmps16 Tryz.results16 rfl (by decide) (fun cx hnt hk0 => ?_)
    repeat' (first | refine AWp.seq fun K hK => ?_ | refine hK _ ?_; clear hK K | refine hX ?_; clear hX hY X Y | refine hY ?_; clear hX hY X Y | refine AWp.block ?_ | refine hL _ _ ?_ | ((first | refine AWp.region tok (by rw [hnt]; rfl) ?_ | refine AWp.cond' fun X Y hX hY => ?_ | refine AWp.skip ?_ | refine AWp.exit ?_ | refine AWp.ret ?_ | refine Fin.auto [] ?_ | refine runS_at [] (DrawWorldPlay_ok l hb0 hlen) rfl ?_ ?_ (fun es hes => ?_) | refine AWp.draw (id := 13) tok mixed pl_isum_30 [] [10] (by kernel_rfl) (by kernel_rfl) (by rw [hnt]; rfl) ?_ | refine AWp.draw (id := 14) tok mixed pl_isum_31 [] [4] (by kernel_rfl) (by kernel_rfl) (by rw [hnt]; rfl) ?_ | refine AWp.draw (id := 15) tok mixed pl_isum_32 [] [4, 8, 11] (by kernel_rfl) (by kernel_rfl) (by rw [hnt]; rfl) ?_ | refine effS_at [] (DrawWorldPlay_ok l hb0 hlen) rfl ?_ ?_ (fun es hes => ?_) | ((first | apply gR | apply gC | apply gT | apply gE) <;> intro hq <;> (try simp only [nT, nF, n1, n0] at hq) <;> (have hb := hq) <;> (try simp only [dT, dF, eT, eF] at hb) <;> first | (exfalso; omega) | ((try simp only [hq]); clear hq))) <;> (try simp only [go_sem, qa, qb, qc, qd, qe, qf, qg, qh, qi, qj, qk, ql, qm, qn, qo, qp, qq, qr, qs, reduceIte, reduceCtorEq])) | refine Fits.of ?_ ?_ | refine aL ?_ fun hp => ?_ | refine aE ?_ fun hp => ?_ | refine aC ?_ fun hp => ?_ | refine And.intro ?_ ?_ | clear hK K | clear hX hY X Y | clear hL L)
    all_goals try omega
    by_cases h60 : es.length ≤ 60
    · have zi := zinv_play es
      have wi := zi.winv
      have S1 := zi.ab
      have S2 := zi.ba
      have cI := iWorldPlay_ok es h60
      have cS := WorldPlay_ok es h60
      clear zi
      generalize Two.new.play es = w at wi cI cS S1 S2
      obtain ⟨a, b⟩ := w
      have wok : wOk [a, b] = true := wi.ok
      have S1 : SInv a b := S1
      have S2 : SInv b a := S2
      have C1 : CInv a := wi.ca
      have C2 : CInv b := wi.cb
      have D1 : LInv a b := wi.ab
      have D2 : LInv b a := wi.ba
      obtain ⟨p1, p2, p3, p4, p5, p6⟩ := wOk_iff.1 wok
      have cL := lwWorld_ok (Two.list ⟨a, b⟩) (Two.list ⟨a, b⟩) (two_fit wi.ok) (by simp [Two.list])
      rw [decide_eq_true rfl] at cL
      obtain ⟨q1, q2, q3, q4, q5, q6⟩ := chain_ok p1
      obtain ⟨u1, u2, u3, u4, u5, u6⟩ := chain_ok p2
      obtain ⟨r1, r2, r3, r4, r5, r6, r7, r8, r9⟩ := state_ok q3
      obtain ⟨t1, t2, t3, t4, t5, t6, t7, t8, t9⟩ := state_ok u3
      have q7 := knows_len q6
      have u7 := knows_len u6
      repeat' (first | refine AWp.seq fun K hK => ?_ | refine hK _ ?_; clear hK K | refine hX ?_; clear hX hY X Y | refine hY ?_; clear hX hY X Y | refine AWp.block ?_ | refine hL _ _ ?_ | ((first | refine AWp.region tok (by rw [hnt]; rfl) ?_ | refine AWp.cond' fun X Y hX hY => ?_ | refine AWp.skip ?_ | refine AWp.exit ?_ | refine AWp.ret ?_ | refine Fin.auto [] ?_ | refine runS_c [] (cI) rfl ?_ ?_ ?_ | refine runS_c [] (cS) rfl ?_ ?_ ?_ | refine runS_c [] (cL) rfl ?_ ?_ ?_ | refine AWp.draw (id := 13) tok mixed pl_isum_30 [] [10] (by kernel_rfl) (by kernel_rfl) (by rw [hnt]; rfl) ?_ | refine AWp.draw (id := 14) tok mixed pl_isum_31 [] [4] (by kernel_rfl) (by kernel_rfl) (by rw [hnt]; rfl) ?_ | refine AWp.draw (id := 15) tok mixed pl_isum_32 [] [4, 8, 11] (by kernel_rfl) (by kernel_rfl) (by rw [hnt]; rfl) ?_ | refine effS_c [] (cI) rfl ?_ ?_ ?_ | refine effS_c [] (cS) rfl ?_ ?_ ?_ | refine effS_c [] (cL) rfl ?_ ?_ ?_ | ((first | apply gR | apply gC | apply gT | apply gE) <;> intro hq <;> (try simp only [nT, nF, n1, n0] at hq) <;> (have hb := hq) <;> (try simp only [dT, dF, eT, eF] at hb) <;> first | (exfalso; omega) | ((try simp only [hq]); clear hq))) <;> (try simp only [go_sem, qa, qb, qc, qd, qe, qf, qg, qh, qi, qj, qk, ql, qm, qn, qo, qp, qq, qr, qs, reduceIte, reduceCtorEq])) | refine Fits.of ?_ ?_ | refine aL ?_ fun hp => ?_ | refine aE ?_ fun hp => ?_ | refine aC ?_ fun hp => ?_ | refine And.intro ?_ ?_ | clear hK K | clear hX hY X Y | clear hL L)
      all_goals try omega
      have g1 := sinv_iff.1 S1
      have g2 := sinv_iff.1 S2
      have y1 := (away_in (o := b.state) (k := 1) q3 (Nat.le_refl _))
      have y2 := (away_in (o := b.state) (k := 2) q3 (Nat.le_refl _))
      have y3 := (away_in (o := a.state) (k := 1) u3 (Nat.le_refl _))
      have y4 := (away_in (o := a.state) (k := 2) u3 (Nat.le_refl _))
      have k1 := bank_ok q2
      have k2 := bank_ok u2
      have m1 := parts_all k1.1
      have m2 := parts_all k1.2.1
      have m3 := parts_all k2.1
      have m4 := parts_all k2.2.1
      have a1 := SumAway_1 a b wok 1 (.inl rfl)
      have a2 := SumAway_1 a b wok 2 (.inr rfl)
      have a3 := SumAway_2 a b wok 1 (.inl rfl)
      have a4 := SumAway_2 a b wok 2 (.inr rfl)
      have c3 := SumNotes_1 a b wok
      have c4 := SumNotes_2 a b wok
      rw [← g1] at c3
      rw [← g2] at c4
      have i1 := isum_3 k1.1
      have i2 := isum_3 k1.2.1
      have i3 := isum_3 k2.1
      have i4 := isum_3 k2.2.1
      have h1 := parts_get k1.1
      have h2 := parts_get k1.2.1
      have h3 := parts_get k2.1
      have h4 := parts_get k2.2.1
      have h10 := h1 0
      have h11 := h1 1
      have h12 := h1 2
      have h20 := h2 0
      have h21 := h2 1
      have h22 := h2 2
      have h30 := h3 0
      have h31 := h3 1
      have h32 := h3 2
      have h40 := h4 0
      have h41 := h4 1
      have h42 := h4 2
      have f1 := k1.2.2.2.1
      have f2 := k2.2.2.2.1
      have r3' : a.state.sent.length ≤ 8 := r3
      have t3' : b.state.sent.length ≤ 8 := t3
      have z1 : 0 ≤ awayS a.state b.state 1 ∧ awayS a.state b.state 1 ≤ 9 * a.state.sent.length := y1
      have z2 : 0 ≤ awayS a.state b.state 2 ∧ awayS a.state b.state 2 ≤ 9 * a.state.sent.length := y2
      have z3 : 0 ≤ awayS b.state a.state 1 ∧ awayS b.state a.state 1 ≤ 9 * b.state.sent.length := y3
      have z4 : 0 ≤ awayS b.state a.state 2 ∧ awayS b.state a.state 2 ≤ 9 * b.state.sent.length := y4
      clear S1 S2 h1 h2 h3 h4 y1 y2 y3 y4
      refine AWp.loopN 4 fun L hL => ?_
      
      repeat' (first | refine AWp.seq fun K hK => ?_ | refine hK _ ?_; clear hK K | refine hX ?_; clear hX hY X Y | refine hY ?_; clear hX hY X Y | refine AWp.block ?_ | refine hL _ _ ?_ | ((first | refine AWp.region tok (by rw [hnt]; rfl) ?_ | refine AWp.cond' fun X Y hX hY => ?_ | refine AWp.skip ?_ | refine AWp.exit ?_ | refine AWp.ret ?_ | refine Fin.auto [] ?_ | refine runS_c [] (iSumUser_yes a b wok 1 (by omega) (by omega)) rfl ?_ ?_ ?_ | refine runS_c [] (iSumUser_yes a b wok 2 (by omega) (by omega)) rfl ?_ ?_ ?_ | refine runS_c [] (iSumUser_yes a b wok 3 (by omega) (by omega)) rfl ?_ ?_ ?_ | refine runS_c [] (a1) rfl ?_ ?_ ?_ | refine runS_c [] (a2) rfl ?_ ?_ ?_ | refine runS_c [] (a3) rfl ?_ ?_ ?_ | refine runS_c [] (a4) rfl ?_ ?_ ?_ | refine runS_c [] (c3) rfl ?_ ?_ ?_ | refine runS_c [] (c4) rfl ?_ ?_ ?_ | refine AWp.draw (id := 13) tok mixed pl_isum_30 [0, 2, 3, 4] [10] (by kernel_rfl) (by kernel_rfl) (by rw [hnt]; rfl) ?_ | refine AWp.draw (id := 14) tok mixed pl_isum_31 [0, 2, 3, 4] [4] (by kernel_rfl) (by kernel_rfl) (by rw [hnt]; rfl) ?_ | refine AWp.draw (id := 15) tok mixed pl_isum_32 [0, 2, 3, 4] [4, 8, 11] (by kernel_rfl) (by kernel_rfl) (by rw [hnt]; rfl) ?_ | refine effS_c [] (iSumUser_yes a b wok 1 (by omega) (by omega)) rfl ?_ ?_ ?_ | refine effS_c [] (iSumUser_yes a b wok 2 (by omega) (by omega)) rfl ?_ ?_ ?_ | refine effS_c [] (iSumUser_yes a b wok 3 (by omega) (by omega)) rfl ?_ ?_ ?_ | refine effS_c [] (a1) rfl ?_ ?_ ?_ | refine effS_c [] (a2) rfl ?_ ?_ ?_ | refine effS_c [] (a3) rfl ?_ ?_ ?_ | refine effS_c [] (a4) rfl ?_ ?_ ?_ | refine effS_c [] (c3) rfl ?_ ?_ ?_ | refine effS_c [] (c4) rfl ?_ ?_ ?_ | ((first | apply gR | apply gC | apply gT | apply gE) <;> intro hq <;> (try simp only [nT, nF, n1, n0] at hq) <;> (have hb := hq) <;> (try simp only [dT, dF, eT, eF] at hb) <;> first | (exfalso; omega) | ((try simp only [hq]); clear hq))) <;> (try simp only [go_sem, qa, qb, qc, qd, qe, qf, qg, qh, qi, qj, qk, ql, qm, qn, qo, qp, qq, qr, qs, reduceIte, reduceCtorEq, Two.list, List.getD_cons_succ, sumU, List.getD_cons_zero])) | refine Fits.of ?_ ?_ | refine aL ?_ fun hp => ?_ | refine aE ?_ fun hp => ?_ | refine aC ?_ fun hp => ?_ | refine And.intro ?_ ?_ | clear hK K | clear hX hY X Y | clear hL L)
      all_goals try omega
      all_goals try (rw [decide_eq_true_eq]; omega)
    · have cL := lwWorld_ok [] [] nil_fit (by simp)
      rw [decide_eq_true rfl] at cL
      repeat' (first | refine AWp.seq fun K hK => ?_ | refine hK _ ?_; clear hK K | refine hX ?_; clear hX hY X Y | refine hY ?_; clear hX hY X Y | refine AWp.block ?_ | refine hL _ _ ?_ | ((first | refine AWp.region tok (by rw [hnt]; rfl) ?_ | refine AWp.cond' fun X Y hX hY => ?_ | refine AWp.skip ?_ | refine AWp.exit ?_ | refine AWp.ret ?_ | refine Fin.auto [] ?_ | refine runS_c [] (iWorldPlay_no es (by omega)) rfl ?_ ?_ ?_ | refine runS_c [] (WorldPlay_no es (by omega)) rfl ?_ ?_ ?_ | refine runS_c [] (cL) rfl ?_ ?_ ?_ | refine AWp.draw (id := 13) tok mixed pl_isum_30 [0, 2, 3, 4] [10] (by kernel_rfl) (by kernel_rfl) (by rw [hnt]; rfl) ?_ | refine AWp.draw (id := 14) tok mixed pl_isum_31 [0, 2, 3, 4] [4] (by kernel_rfl) (by kernel_rfl) (by rw [hnt]; rfl) ?_ | refine AWp.draw (id := 15) tok mixed pl_isum_32 [0, 2, 3, 4] [4, 8, 11] (by kernel_rfl) (by kernel_rfl) (by rw [hnt]; rfl) ?_ | refine effS_c [] (iWorldPlay_no es (by omega)) rfl ?_ ?_ ?_ | refine effS_c [] (WorldPlay_no es (by omega)) rfl ?_ ?_ ?_ | refine effS_c [] (cL) rfl ?_ ?_ ?_ | ((first | apply gR | apply gC | apply gT | apply gE) <;> intro hq <;> (try simp only [nT, nF, n1, n0] at hq) <;> (have hb := hq) <;> (try simp only [dT, dF, eT, eF] at hb) <;> first | (exfalso; omega) | ((try simp only [hq]); clear hq))) <;> (try simp only [go_sem, qa, qb, qc, qd, qe, qf, qg, qh, qi, qj, qk, ql, qm, qn, qo, qp, qq, qr, qs, reduceIte, reduceCtorEq])) | refine Fits.of ?_ ?_ | refine aL ?_ fun hp => ?_ | refine aE ?_ fun hp => ?_ | refine aC ?_ fun hp => ?_ | refine And.intro ?_ ?_ | clear hK K | clear hX hY X Y | clear hL L)
      all_goals try omega
  · refine CallX.of tok Tryz.func16 rfl rfl Tryz.ntmps16 Tryz.results16 rfl (by decide) (fun cx hnt hk0 => ?_)
    repeat' (first | refine AWp.seq fun K hK => ?_ | refine hK _ ?_; clear hK K | refine hX ?_; clear hX hY X Y | refine hY ?_; clear hX hY X Y | refine AWp.block ?_ | refine hL _ _ ?_ | ((first | refine AWp.region tok (by rw [hnt]; rfl) ?_ | refine AWp.cond' fun X Y hX hY => ?_ | refine AWp.skip ?_ | refine AWp.exit ?_ | refine AWp.ret ?_ | refine Fin.auto [] ?_ | refine AWp.draw (id := 13) tok mixed pl_isum_30 [] [10] (by kernel_rfl) (by kernel_rfl) (by rw [hnt]; rfl) ?_ | refine AWp.draw (id := 14) tok mixed pl_isum_31 [] [4] (by kernel_rfl) (by kernel_rfl) (by rw [hnt]; rfl) ?_ | refine AWp.draw (id := 15) tok mixed pl_isum_32 [] [4, 8, 11] (by kernel_rfl) (by kernel_rfl) (by rw [hnt]; rfl) ?_ | ((first | apply gR | apply gC | apply gT | apply gE) <;> intro hq <;> (try simp only [nT, nF, n1, n0] at hq) <;> (have hb := hq) <;> (try simp only [dT, dF, eT, eF] at hb) <;> first | (exfalso; omega) | ((try simp only [hq]); clear hq))) <;> (try simp only [go_sem, qa, qb, qc, qd, qe, qf, qg, qh, qi, qj, qk, ql, qm, qn, qo, qp, qq, qr, qs, reduceIte, reduceCtorEq])) | refine Fits.of ?_ ?_ | refine aL ?_ fun hp => ?_ | refine aE ?_ fun hp => ?_ | refine aC ?_ fun hp => ?_ | refine And.intro ?_ ?_ | clear hK K | clear hX hY X Y | clear hL L)
    all_goals try omega
end Go.Hw
