/- What is proved here: parts W73 of the walk of the law and of its plain side; no condition but those that each theorem states. -/
import Derived.Test.YtcbceacjhmblnaaGreatW72
import Derived.Test.YtcbceacjhmblnaaGreatE8
import Derived.Test.YtcbceacjhmblnaaGreatW62
/- What is proved: how many coins are on their way, and how many notes there are, as the program adds them up. -/
set_option linter.all false
set_option maxRecDepth 100000
set_option maxHeartbeats 4000000
namespace Go.Hw
open Go.Proofs
open Nat renaming reduceDiv → qa, reduceMod → qb, reduceAdd → qc, reduceMul → qd, reduceSub → qe, reduceLeDiff → qf, reduceBEq → qg, reduceEqDiff → qh, reduceBeqDiff → qi, reduceLT → qj
open Int renaming reduceToNat → qk, reduceAdd → ql, reduceSub → qm, reduceNeg → qn, reduceLT → qo, reduceLE → qp, reduceEq → qq, reduceBEq → qr, reduceBNe → qs
open Go.Hw renaming runG_split → gR, condG_split → gC, takG_split → gT, effG_split → gE
theorem SumAway_1 (a b : Chain) (h : wOk [a, b] = true) (k : Int) (hk : k = 1 ∨ k = 2) : Call Tryz.prog 29 [.g [.t (chainsT (Two.list ⟨a, b⟩))], I 1, I k] [] 0 (.o (I (awayS a.state b.state k))) [] 0 := by
  obtain ⟨p1, p2, p3, p4, p5, p6⟩ := wOk_iff.1 h
  have cW := iWorldOk_yes a b h
  have cC := chainOk_ok 1
  rw [show In 1 1 2 = true from rfl] at cC
  rcases hk with rfl | rfl
  all_goals
    refine CallX.of tok Tryz.func29 rfl rfl Tryz.ntmps29 Tryz.results29 rfl (by decide) (fun cx hnt hk0 => ?_)
    
    repeat' (first | refine AWp.seq fun K hK => ?_ | refine hK _ ?_; clear hK K | refine hX ?_; clear hX hY X Y | refine hY ?_; clear hX hY X Y | refine AWp.block ?_ | refine hL _ _ ?_ | ((first | refine AWp.region tok (by rw [hnt]; rfl) ?_ | refine AWp.cond' fun X Y hX hY => ?_ | refine AWp.skip ?_ | refine AWp.exit ?_ | refine AWp.ret ?_ | refine Fin.auto [] ?_ | refine runS_c [] (cW) rfl ?_ ?_ ?_ | refine runS_c [] (cC) rfl ?_ ?_ ?_ | refine runS_c [] (worldEnds_1 a b) rfl ?_ ?_ ?_ | refine runS_c [_] (addAway_ok 0 a.state b.state _ (by omega) (by omega) (chain_ok p1).2.2.1 (chain_ok p2).2.2.1) rfl ?_ ?_ ?_ | ((first | apply gR | apply gC) <;> intro hq <;> (try simp only [nT, nF, n1, n0] at hq) <;> (have hb := hq) <;> (try simp only [dT, dF, eT, eF] at hb) <;> first | (exfalso; omega) | ((try simp only [hq]); clear hq))) <;> (try simp only [go_sem, qa, qb, qc, qd, qe, qf, qg, qh, qi, qj, qk, ql, qm, qn, qo, qp, qq, qr, qs, reduceIte, reduceCtorEq, Int.zero_add])) | refine Fits.of ?_ ?_ | refine aL ?_ fun hp => ?_ | refine aE ?_ fun hp => ?_ | refine aC ?_ fun hp => ?_ | refine And.intro ?_ ?_ | clear hK K | clear hX hY X Y | clear hL L)
    all_goals try omega
theorem SumAway_2 (a b : Chain) (h : wOk [a, b] = true) (k : Int) (hk : k = 1 ∨ k = 2) : Call Tryz.prog 29 [.g [.t (chainsT (Two.list ⟨a, b⟩))], I 2, I k] [] 0 (.o (I (awayS b.state a.state k))) [] 0 := by
  obtain ⟨p1, p2, p3, p4, p5, p6⟩ := wOk_iff.1 h
  have cW := iWorldOk_yes a b h
  have cC := chainOk_ok 2
  rw [show In 2 1 2 = true from rfl] at cC
  rcases hk with rfl | rfl
  all_goals
    refine CallX.of tok Tryz.func29 rfl rfl Tryz.ntmps29 Tryz.results29 rfl (by decide) (fun cx hnt hk0 => ?_)
    
    repeat' (first | refine AWp.seq fun K hK => ?_ | refine hK _ ?_; clear hK K | refine hX ?_; clear hX hY X Y | refine hY ?_; clear hX hY X Y | refine AWp.block ?_ | refine hL _ _ ?_ | ((first | refine AWp.region tok (by rw [hnt]; rfl) ?_ | refine AWp.cond' fun X Y hX hY => ?_ | refine AWp.skip ?_ | refine AWp.exit ?_ | refine AWp.ret ?_ | refine Fin.auto [] ?_ | refine runS_c [] (cW) rfl ?_ ?_ ?_ | refine runS_c [] (cC) rfl ?_ ?_ ?_ | refine runS_c [] (worldEnds_2 a b) rfl ?_ ?_ ?_ | refine runS_c [_] (addAway_ok 0 b.state a.state _ (by omega) (by omega) (chain_ok p2).2.2.1 (chain_ok p1).2.2.1) rfl ?_ ?_ ?_ | ((first | apply gR | apply gC) <;> intro hq <;> (try simp only [nT, nF, n1, n0] at hq) <;> (have hb := hq) <;> (try simp only [dT, dF, eT, eF] at hb) <;> first | (exfalso; omega) | ((try simp only [hq]); clear hq))) <;> (try simp only [go_sem, qa, qb, qc, qd, qe, qf, qg, qh, qi, qj, qk, ql, qm, qn, qo, qp, qq, qr, qs, reduceIte, reduceCtorEq, Int.zero_add])) | refine Fits.of ?_ ?_ | refine aL ?_ fun hp => ?_ | refine aE ?_ fun hp => ?_ | refine aC ?_ fun hp => ?_ | refine And.intro ?_ ?_ | clear hK K | clear hX hY X Y | clear hL L)
    all_goals try omega
theorem SumNotes_1 (a b : Chain) (h : wOk [a, b] = true) : Call Tryz.prog 33 [.g [.t (chainsT (Two.list ⟨a, b⟩))], I 1] [] 0 (.o (I (isum b.bank.notes + awayS a.state b.state 1 + awayS b.state a.state 2))) [] 0 := by
  obtain ⟨p1, p2, p3, p4, p5, p6⟩ := wOk_iff.1 h
  have s1 := (chain_ok p1).2.2.1
  have s2 := (chain_ok p2).2.2.1
  have n2 := (bank_ok (chain_ok p2).2.1).2.1
  have y1 := parts_all n2
  have y2 := away_in (o := b.state) (k := 1) s1 (Nat.le_refl _)
  have l1 := (state_ok s1).2.2.1
  have cW := iWorldOk_yes a b h
  have cC := chainOk_ok 1
  rw [show In 1 1 2 = true from rfl] at cC
  have c1 := addAll_ok 0 b.bank.notes (by omega) (by omega) n2
  have c2 := addAway_ok (isum b.bank.notes) a.state b.state 1 (by omega) (by omega) s1 s2
  have c3 := addAway_ok (isum b.bank.notes + awayS a.state b.state 1) b.state a.state 2 (by unfold awayS; omega) (by unfold awayS; omega) s2 s1
  rw [Int.zero_add] at c1
  refine CallX.of tok Tryz.func33 rfl rfl Tryz.ntmps33 Tryz.results33 rfl (by decide) (fun cx hnt hk0 => ?_)
  
  repeat' (first | refine AWp.seq fun K hK => ?_ | refine hK _ ?_; clear hK K | refine hX ?_; clear hX hY X Y | refine hY ?_; clear hX hY X Y | refine AWp.block ?_ | refine hL _ _ ?_ | ((first | refine AWp.region tok (by rw [hnt]; rfl) ?_ | refine AWp.cond' fun X Y hX hY => ?_ | refine AWp.skip ?_ | refine AWp.exit ?_ | refine AWp.ret ?_ | refine Fin.auto [] ?_ | refine runS_c [] (cW) rfl ?_ ?_ ?_ | refine runS_c [] (cC) rfl ?_ ?_ ?_ | refine runS_c [] (worldEnds_1 a b) rfl ?_ ?_ ?_ | refine runS_c [_] (c1) rfl ?_ ?_ ?_ | refine runS_c [_] (c2) rfl ?_ ?_ ?_ | refine runS_c [_] (c3) rfl ?_ ?_ ?_ | ((first | apply gR | apply gC) <;> intro hq <;> (try simp only [nT, nF, n1, n0] at hq) <;> (have hb := hq) <;> (try simp only [dT, dF, eT, eF] at hb) <;> first | (exfalso; omega) | ((try simp only [hq]); clear hq))) <;> (try simp only [go_sem, qa, qb, qc, qd, qe, qf, qg, qh, qi, qj, qk, ql, qm, qn, qo, qp, qq, qr, qs, reduceIte, reduceCtorEq])) | refine Fits.of ?_ ?_ | refine aL ?_ fun hp => ?_ | refine aE ?_ fun hp => ?_ | refine aC ?_ fun hp => ?_ | refine And.intro ?_ ?_ | clear hK K | clear hX hY X Y | clear hL L)
  all_goals try omega
theorem SumNotes_2 (a b : Chain) (h : wOk [a, b] = true) : Call Tryz.prog 33 [.g [.t (chainsT (Two.list ⟨a, b⟩))], I 2] [] 0 (.o (I (isum a.bank.notes + awayS b.state a.state 1 + awayS a.state b.state 2))) [] 0 := by
  obtain ⟨p1, p2, p3, p4, p5, p6⟩ := wOk_iff.1 h
  have s1 := (chain_ok p1).2.2.1
  have s2 := (chain_ok p2).2.2.1
  have n2 := (bank_ok (chain_ok p1).2.1).2.1
  have y1 := parts_all n2
  have y2 := away_in (o := a.state) (k := 1) s2 (Nat.le_refl _)
  have l1 := (state_ok s2).2.2.1
  have cW := iWorldOk_yes a b h
  have cC := chainOk_ok 2
  rw [show In 2 1 2 = true from rfl] at cC
  have c1 := addAll_ok 0 a.bank.notes (by omega) (by omega) n2
  have c2 := addAway_ok (isum a.bank.notes) b.state a.state 1 (by omega) (by omega) s2 s1
  have c3 := addAway_ok (isum a.bank.notes + awayS b.state a.state 1) a.state b.state 2 (by unfold awayS; omega) (by unfold awayS; omega) s1 s2
  rw [Int.zero_add] at c1
  refine CallX.of tok Tryz.func33 rfl rfl Tryz.ntmps33 Tryz.results33 rfl (by decide) (fun cx hnt hk0 => ?_)
  
  repeat' (first | refine AWp.seq fun K hK => ?_ | refine hK _ ?_; clear hK K | refine hX ?_; clear hX hY X Y | refine hY ?_; clear hX hY X Y | refine AWp.block ?_ | refine hL _ _ ?_ | ((first | refine AWp.region tok (by rw [hnt]; rfl) ?_ | refine AWp.cond' fun X Y hX hY => ?_ | refine AWp.skip ?_ | refine AWp.exit ?_ | refine AWp.ret ?_ | refine Fin.auto [] ?_ | refine runS_c [] (cW) rfl ?_ ?_ ?_ | refine runS_c [] (cC) rfl ?_ ?_ ?_ | refine runS_c [] (worldEnds_2 a b) rfl ?_ ?_ ?_ | refine runS_c [_] (c1) rfl ?_ ?_ ?_ | refine runS_c [_] (c2) rfl ?_ ?_ ?_ | refine runS_c [_] (c3) rfl ?_ ?_ ?_ | ((first | apply gR | apply gC) <;> intro hq <;> (try simp only [nT, nF, n1, n0] at hq) <;> (have hb := hq) <;> (try simp only [dT, dF, eT, eF] at hb) <;> first | (exfalso; omega) | ((try simp only [hq]); clear hq))) <;> (try simp only [go_sem, qa, qb, qc, qd, qe, qf, qg, qh, qi, qj, qk, ql, qm, qn, qo, qp, qq, qr, qs, reduceIte, reduceCtorEq])) | refine Fits.of ?_ ?_ | refine aL ?_ fun hp => ?_ | refine aE ?_ fun hp => ?_ | refine aC ?_ fun hp => ?_ | refine And.intro ?_ ?_ | clear hK K | clear hX hY X Y | clear hL L)
  all_goals try omega
end Go.Hw
