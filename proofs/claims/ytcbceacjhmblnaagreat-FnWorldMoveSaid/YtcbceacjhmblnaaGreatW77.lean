/- What is proved here: parts W77 of the walk of the law and of its plain side; no condition but those that each theorem states. -/
import Derived.Test.YtcbceacjhmblnaaGreatW73
/- What is proved: no coin is lost, as the laws ask it. -/
set_option linter.all false
set_option maxRecDepth 100000
set_option maxHeartbeats 4000000
namespace Go.Hw
open Go.Proofs
open Nat renaming reduceDiv → qa, reduceMod → qb, reduceAdd → qc, reduceMul → qd, reduceSub → qe, reduceLeDiff → qf, reduceBEq → qg, reduceEqDiff → qh, reduceBeqDiff → qi, reduceLT → qj
open Int renaming reduceToNat → qk, reduceAdd → ql, reduceSub → qm, reduceNeg → qn, reduceLT → qo, reduceLE → qp, reduceEq → qq, reduceBEq → qr, reduceBNe → qs
open Go.Hw renaming runG_split → gR, condG_split → gC, takG_split → gT, effG_split → gE
def pl_lwSums_ok0 : Plan := (.tak 0 (.tak 1 (.tak 2 (.tak 3 (.tak 4 (.tak 6 (.tak 7 (.tak 8 (.tak 9 (.tak 10 (.tak 11 (.tak 12 (.tak 13 (.all (.cons 5 (.tak 14 (.tak 15 .done)) .nil)))))))))))))))
attribute [go_sem] pl_lwSums_ok0
theorem lwSums_ok (a b : Chain) (h : wOk [a, b] = true) (S : SInv a b) (S' : SInv b a) : Call Tryz.prog 31 [.g [.t (chainsT (Two.list ⟨a, b⟩))]] [] 0 (.o (BB true)) [] 0 := by
  obtain ⟨p1, p2, p3, p4, p5, p6⟩ := wOk_iff.1 h
  have c1 := BankAll_ok a.bank (chain_ok p1).2.1
  have c2 := BankAll_ok b.bank (chain_ok p2).2.1
  have c3 := SumNotes_1 a b h
  have c4 := SumNotes_2 a b h
  rw [← sinv_iff.1 S] at c3
  rw [← sinv_iff.1 S'] at c4
  refine CallX.of tok Tryz.func31 rfl rfl Tryz.ntmps31 Tryz.results31 rfl (by decide) (fun cx hnt hk0 => ?_)
  
  refine AWp.seq fun K hK => ?_
  repeat' (first | refine AWp.seq fun K hK => ?_ | refine hK _ ?_; clear hK K | refine hX ?_; clear hX hY X Y | refine hY ?_; clear hX hY X Y | refine AWp.block ?_ | refine hL _ _ ?_ | ((first | refine AWp.region tok (by rw [hnt]; rfl) ?_ | refine AWp.cond' fun X Y hX hY => ?_ | refine AWp.skip ?_ | refine AWp.exit ?_ | refine AWp.ret ?_ | refine Fin.auto [] ?_ | refine AWp.draw (id := 5) tok mixed pl_lwSums_ok0 [0] [1, 3, 4] (by kernel_rfl) (by kernel_rfl) (by rw [hnt]; rfl) ?_ | ((first | apply gR | apply gC | apply gT | apply gE) <;> intro hq <;> (try simp only [nT, nF, n1, n0] at hq) <;> (have hb := hq) <;> (try simp only [dT, dF, eT, eF] at hb) <;> first | (exfalso; omega) | ((try simp only [hq]); clear hq))) <;> (try simp only [go_sem, qa, qb, qc, qd, qe, qf, qg, qh, qi, qj, qk, ql, qm, qn, qo, qp, qq, qr, qs, reduceIte, reduceCtorEq, Two.list, List.getD_cons_succ])) | refine Fits.of ?_ ?_ | refine aL ?_ fun hp => ?_ | refine aE ?_ fun hp => ?_ | refine aC ?_ fun hp => ?_ | refine And.intro ?_ ?_ | clear hK K | clear hX hY X Y | clear hL L)
  all_goals try omega
  refine AWp.loopN 3 fun L hL => ?_
  repeat' (first | refine AWp.seq fun K hK => ?_ | refine hK _ ?_; clear hK K | refine hX ?_; clear hX hY X Y | refine hY ?_; clear hX hY X Y | refine AWp.block ?_ | refine hL _ _ ?_ | ((first | refine AWp.region tok (by rw [hnt]; rfl) ?_ | refine AWp.cond' fun X Y hX hY => ?_ | refine AWp.skip ?_ | refine AWp.exit ?_ | refine AWp.ret ?_ | refine Fin.auto [] ?_ | refine runS_c [] (c1) rfl ?_ ?_ ?_ | refine runS_c [] (c2) rfl ?_ ?_ ?_ | refine runS_c [] (c3) rfl ?_ ?_ ?_ | refine runS_c [] (c4) rfl ?_ ?_ ?_ | refine AWp.draw (id := 5) tok mixed pl_lwSums_ok0 [0] [1, 3, 4] (by kernel_rfl) (by kernel_rfl) (by rw [hnt]; rfl) ?_ | refine effS_c [] (c1) rfl ?_ ?_ ?_ | refine effS_c [] (c2) rfl ?_ ?_ ?_ | refine effS_c [] (c3) rfl ?_ ?_ ?_ | refine effS_c [] (c4) rfl ?_ ?_ ?_ | ((first | apply gR | apply gC | apply gT | apply gE) <;> intro hq <;> (try simp only [nT, nF, n1, n0] at hq) <;> (have hb := hq) <;> (try simp only [dT, dF, eT, eF] at hb) <;> first | (exfalso; omega) | ((try simp only [hq]); clear hq))) <;> (try simp only [go_sem, qa, qb, qc, qd, qe, qf, qg, qh, qi, qj, qk, ql, qm, qn, qo, qp, qq, qr, qs, reduceIte, reduceCtorEq, Two.list, List.getD_cons_succ])) | refine Fits.of ?_ ?_ | refine aL ?_ fun hp => ?_ | refine aE ?_ fun hp => ?_ | refine aC ?_ fun hp => ?_ | refine And.intro ?_ ?_ | clear hK K | clear hX hY X Y | clear hL L)
  all_goals try omega
end Go.Hw
