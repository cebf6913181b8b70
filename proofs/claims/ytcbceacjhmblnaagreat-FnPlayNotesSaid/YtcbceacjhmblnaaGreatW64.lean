/- What is proved here: parts W64 of the walk of the law and of its plain side; no condition but those that each theorem states. -/
import Derived.Test.YtcbceacjhmblnaaGreatW62
/- What is proved: what a user has on both chains, as the program counts it. -/
set_option linter.all false
set_option maxRecDepth 100000
set_option maxHeartbeats 4000000
namespace Go.Hw
open Go.Proofs
open Nat renaming reduceDiv → qa, reduceMod → qb, reduceAdd → qc, reduceMul → qd, reduceSub → qe, reduceLeDiff → qf, reduceBEq → qg, reduceEqDiff → qh, reduceBeqDiff → qi, reduceLT → qj
open Int renaming reduceToNat → qk, reduceAdd → ql, reduceSub → qm, reduceNeg → qn, reduceLT → qo, reduceLE → qp, reduceEq → qq, reduceBEq → qr, reduceBNe → qs
open Go.Hw renaming runG_split → gR, condG_split → gC, takG_split → gT, effG_split → gE
def pl_iSumUser_yes0 : Plan := (.tak 0 (.tak 1 (.tak 2 (.tak 3 (.tak 4 (.tak 5 (.tak 6 (.tak 7 (.tak 8 (.tak 9 (.tak 10 (.tak 11 (.tak 12 (.tak 13 (.tak 14 (.all (.cons 15 (.all (.cons 16 (.tak 17 .done) .nil)) .nil)))))))))))))))))
attribute [go_sem] pl_iSumUser_yes0
def sumU (a b : Chain) (u : Int) : List Int := [a.bank.own.getD (u - 1).toNat 0, a.bank.notes.getD (u - 1).toNat 0, b.bank.own.getD (u - 1).toNat 0, b.bank.notes.getD (u - 1).toNat 0]
theorem iSumUser_yes (a b : Chain) (h : wOk [a, b] = true) (u : Int) (h1 : 1 ≤ u) (h3 : u ≤ 3) : Call Tryz.prog 28 [.g [.t (chainsT (Two.list ⟨a, b⟩))], I u] [] 0 (.o (.c (.sl 0 1 0 4))) [(0, rI (sumU a b u))] 1 := by
  have cW := iWorldOk_yes a b h
  have cU := userOk_ok u
  have eU : In u 1 3 = true := by rw [In_iff]; omega
  rw [eU] at cU
  obtain ⟨p1, p2, p3, p4, p5, p6⟩ := wOk_iff.1 h
  have x1 := parts_len (bank_ok (chain_ok p1).2.1).1
  have x2 := parts_len (bank_ok (chain_ok p1).2.1).2.1
  have x3 := parts_len (bank_ok (chain_ok p2).2.1).1
  have x4 := parts_len (bank_ok (chain_ok p2).2.1).2.1
  refine CallX.of tok Tryz.func28 rfl rfl Tryz.ntmps28 Tryz.results28 rfl (by decide) (fun cx hnt hk0 => ?_)
  repeat' (first | refine AWp.seq fun K hK => ?_ | refine hK _ ?_; clear hK K | refine hX ?_; clear hX hY X Y | refine hY ?_; clear hX hY X Y | refine AWp.block ?_ | refine hL _ _ ?_ | ((first | refine AWp.region tok (by rw [hnt]; rfl) ?_ | refine AWp.cond' fun X Y hX hY => ?_ | refine AWp.skip ?_ | refine AWp.exit ?_ | refine AWp.ret ?_ | refine Fin.auto [] ?_ | refine runS_c [] (cW) rfl ?_ ?_ ?_ | refine runS_c [] (cU) rfl ?_ ?_ ?_ | refine AWp.draw (id := 7) tok mixed pl_iSumUser_yes0 [] [1, 7] (by kernel_rfl) (by kernel_rfl) (by rw [hnt]; rfl) ?_ | refine effS_c [] (cW) rfl ?_ ?_ ?_ | refine effS_c [] (cU) rfl ?_ ?_ ?_ | ((first | apply gR | apply gC | apply gT | apply gE) <;> intro hq <;> (try simp only [nT, nF, n1, n0] at hq) <;> (have hb := hq) <;> (try simp only [dT, dF, eT, eF] at hb) <;> first | (exfalso; omega) | ((try simp only [hq]); clear hq))) <;> (try simp only [go_sem, qa, qb, qc, qd, qe, qf, qg, qh, qi, qj, qk, ql, qm, qn, qo, qp, qq, qr, qs, reduceIte, reduceCtorEq, Two.list, List.getD_cons_succ])) | refine Fits.of ?_ ?_ | refine aL ?_ fun hp => ?_ | refine aE ?_ fun hp => ?_ | refine aC ?_ fun hp => ?_ | refine And.intro ?_ ?_ | clear hK K | clear hX hY X Y | clear hL L)
  all_goals try omega
  refine AWp.loopN 3 fun L hL => ?_
  
  repeat' (first | refine AWp.seq fun K hK => ?_ | refine hK _ ?_; clear hK K | refine hX ?_; clear hX hY X Y | refine hY ?_; clear hX hY X Y | refine AWp.block ?_ | refine hL _ _ ?_ | ((first | refine AWp.region tok (by rw [hnt]; rfl) ?_ | refine AWp.cond' fun X Y hX hY => ?_ | refine AWp.skip ?_ | refine AWp.exit ?_ | refine AWp.ret ?_ | refine Fin.auto [] ?_ | refine runS_c [] (cW) rfl ?_ ?_ ?_ | refine runS_c [] (cU) rfl ?_ ?_ ?_ | refine AWp.draw (id := 7) tok mixed pl_iSumUser_yes0 [1, 4] [1, 7] (by kernel_rfl) (by kernel_rfl) (by rw [hnt]; rfl) ?_ | refine effS_c [] (cW) rfl ?_ ?_ ?_ | refine effS_c [] (cU) rfl ?_ ?_ ?_ | ((first | apply gR | apply gC | apply gT | apply gE) <;> intro hq <;> (try simp only [nT, nF, n1, n0] at hq) <;> (have hb := hq) <;> (try simp only [dT, dF, eT, eF] at hb) <;> first | (exfalso; omega) | ((try simp only [hq]); clear hq))) <;> (try simp only [go_sem, qa, qb, qc, qd, qe, qf, qg, qh, qi, qj, qk, ql, qm, qn, qo, qp, qq, qr, qs, reduceIte, reduceCtorEq, Two.list, List.getD_cons_succ, sumU])) | refine Fits.of ?_ ?_ | refine aL ?_ fun hp => ?_ | refine aE ?_ fun hp => ?_ | refine aC ?_ fun hp => ?_ | refine And.intro ?_ ?_ | clear hK K | clear hX hY X Y | clear hL L)
  all_goals try omega
  all_goals trace_state
end Go.Hw
