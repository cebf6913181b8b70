/- What is proved here: parts W19, W20, W21 of the walk of the law and of its plain side; no condition but those that each theorem states. -/
import Derived.Test.YtcbceacjhmblnaaGreatB1
import Derived.Test.YtcbceacjhmblnaaGreatB2
import Derived.Test.YtcbceacjhmblnaaGreatB4
import Derived.Test.YtcbceacjhmblnaaGreatA4
/- What is proved: what happens on a chain, in the reference. -/
set_option linter.all false
set_option maxRecDepth 100000
set_option maxHeartbeats 4000000
namespace Go.Hw
open Go.Proofs
open Nat renaming reduceDiv → qa, reduceMod → qb, reduceAdd → qc, reduceMul → qd, reduceSub → qe, reduceLeDiff → qf, reduceBEq → qg, reduceEqDiff → qh, reduceBeqDiff → qi, reduceLT → qj
open Int renaming reduceToNat → qk, reduceAdd → ql, reduceSub → qm, reduceNeg → qn, reduceLT → qo, reduceLE → qp, reduceEq → qq, reduceBEq → qr, reduceBNe → qs
open Go.Hw renaming runG_split → gR, condG_split → gC, takG_split → gT, effG_split → gE
def pl_StateNew_tree0 : Plan := (.tak 0 (.tak 2 (.tak 3 (.all (.cons 1 (.all (.cons 4 (.tak 5 (.tak 6 (.tak 7 (.all (.cons 8 (.all (.cons 9 (.tak 10 .done) .nil)) .nil))))) (.cons 8 (.all (.cons 4 (.tak 5 (.tak 6 (.tak 7 (.all (.cons 9 (.tak 10 .done) .nil))))) .nil)) .nil))) (.cons 8 (.all (.cons 1 (.all (.cons 4 (.tak 5 (.tak 6 (.tak 7 (.all (.cons 9 (.tak 10 .done) .nil))))) .nil)) .nil)) .nil))))))
attribute [go_sem] pl_StateNew_tree0
theorem StateNew_tree : Call Tryz.prog 96 [] [] 0 (.o State.new.av) [] 0 := by
  refine CallX.of tok Tryz.func96 rfl rfl Tryz.ntmps96 Tryz.results96 rfl (by decide) (fun cx hnt hk0 => ?_)
  
  repeat' (first | refine AWp.seq fun K hK => ?_ | refine hK _ ?_; clear hK K | refine hX ?_; clear hX hY X Y | refine hY ?_; clear hX hY X Y | refine AWp.block ?_ | refine hL _ _ ?_ | ((first | refine AWp.region tok (by rw [hnt]; rfl) ?_ | refine AWp.cond' fun X Y hX hY => ?_ | refine AWp.skip ?_ | refine AWp.exit ?_ | refine AWp.ret ?_ | refine Fin.auto [1, 2, 3, 4] ?_ | ((first | apply gR | apply gC) <;> intro hq <;> (try simp only [nT, nF, n1, n0] at hq) <;> (have hb := hq) <;> (try simp only [dT, dF, eT, eF] at hb) <;> first | (exfalso; omega) | ((try simp only [hq]); clear hq))) <;> (try simp only [go_sem, qa, qb, qc, qd, qe, qf, qg, qh, qi, qj, qk, ql, qm, qn, qo, qp, qq, qr, qs, reduceIte, reduceCtorEq, State.new])) | refine Fits.of ?_ ?_ | (refine aL ?_ (fun hp => ?_) <;> ((try simp only [rowSet_fI hp, rowSet_fI2 hp]); (try simp only [rowSet_fB hp]))) | refine aE ?_ fun hp => ?_ | refine aC ?_ fun hp => ?_ | refine And.intro ?_ ?_ | clear hK K | clear hX hY X Y | clear hL L)
theorem state_new_ok : State.new.ok = true := by decide
theorem l21Chain_ok (c o : Chain) (kind chain height n seq pk src dst sum till ver : Int) (ok1 : c.ok = true) (ok2 : o.ok = true) :
    Call Tryz.prog 68 [.g (chainA c 0), .g (chainA o 8), (Event.mk kind chain height n ⟨seq, pk, src, dst, sum, till, ver⟩).av] (chainH c 0 ++ chainH o 8) 16
      (.o (.g (chainA (c.on o ⟨kind, chain, height, n, ⟨seq, pk, src, dst, sum, till, ver⟩⟩) 16))) (chainH (c.on o ⟨kind, chain, height, n, ⟨seq, pk, src, dst, sum, till, ver⟩⟩) 16 ++ chainH o 8) 24 := by
  obtain ⟨q1, q2, q3, q4, q5, q6⟩ := chain_ok ok1
  obtain ⟨u1, u2, u3, u4, u5, u6⟩ := chain_ok ok2
  obtain ⟨b1, b2, b3, b4, b5⟩ := bank_ok q2
  have b6 := parts_len b1
  have b7 := parts_len b2
  have b8 := parts_all b1
  by_cases k1 : kind = 1
  · have e : c.on o ⟨kind, chain, height, n, ⟨seq, pk, src, dst, sum, till, ver⟩⟩ = c.block := by simp [Chain.on, k1]
    rw [e]
    refine CallX.of tok Tryz.func68 rfl rfl Tryz.ntmps68 Tryz.results68 rfl (by decide) (fun cx hnt hk0 => ?_)
    repeat' (first | refine AWp.seq fun K hK => ?_ | refine hK _ ?_; clear hK K | refine hX ?_; clear hX hY X Y | refine hY ?_; clear hX hY X Y | refine AWp.block ?_ | refine hL _ _ ?_ | ((first | refine AWp.region tok (by rw [hnt]; rfl) ?_ | refine AWp.cond' fun X Y hX hY => ?_ | refine AWp.skip ?_ | refine AWp.exit ?_ | refine AWp.ret ?_ | refine Fin.auto [] ?_ | refine runS_c [_, _, _, _, _, _, _, _] (l12Block_ok c ok1) rfl ?_ ?_ ?_ | refine AWp.draw (id := 15) tok mixed pl_StateNew_tree0 [] [3, 5] (by kernel_rfl) (by kernel_rfl) (by rw [hnt]; rfl) ?_ | refine effS_c [_, _, _, _, _, _, _, _] (l12Block_ok c ok1) rfl ?_ ?_ ?_ | ((first | apply gR | apply gC | apply gT | apply gE) <;> intro hq <;> (try simp only [nT, nF, n1, n0] at hq) <;> (have hb := hq) <;> (try simp only [dT, dF, eT, eF] at hb) <;> first | (exfalso; omega) | ((try simp only [hq]); clear hq))) <;> (try simp only [go_sem, qa, qb, qc, qd, qe, qf, qg, qh, qi, qj, qk, ql, qm, qn, qo, qp, qq, qr, qs, reduceIte, reduceCtorEq])) | refine Fits.of ?_ ?_ | (refine aL ?_ (fun hp => ?_) <;> ((try simp only [rowSet_fI hp, rowSet_fI2 hp]); (try simp only [rowSet_fB hp]))) | refine aE ?_ fun hp => ?_ | refine aC ?_ fun hp => ?_ | refine And.intro ?_ ?_ | clear hK K | clear hX hY X Y | clear hL L)
    all_goals first | omega | trace_state
  by_cases k2 : kind = 2
  · have e : c.on o ⟨kind, chain, height, n, ⟨seq, pk, src, dst, sum, till, ver⟩⟩ = c.know o height := by simp [Chain.on, k2]
    rw [e]
    refine CallX.of tok Tryz.func68 rfl rfl Tryz.ntmps68 Tryz.results68 rfl (by decide) (fun cx hnt hk0 => ?_)
    repeat' (first | refine AWp.seq fun K hK => ?_ | refine hK _ ?_; clear hK K | refine hX ?_; clear hX hY X Y | refine hY ?_; clear hX hY X Y | refine AWp.block ?_ | refine hL _ _ ?_ | ((first | refine AWp.region tok (by rw [hnt]; rfl) ?_ | refine AWp.cond' fun X Y hX hY => ?_ | refine AWp.skip ?_ | refine AWp.exit ?_ | refine AWp.ret ?_ | refine Fin.auto [] ?_ | refine runS_c [_, _, _, _, _, _, _, _, _, _, _, _, _, _, _, _] (l21Know_ok c o height ok1 (by omega)) rfl ?_ ?_ ?_ | refine AWp.draw (id := 15) tok mixed pl_StateNew_tree0 [] [3, 5] (by kernel_rfl) (by kernel_rfl) (by rw [hnt]; rfl) ?_ | refine effS_c [_, _, _, _, _, _, _, _, _, _, _, _, _, _, _, _] (l21Know_ok c o height ok1 (by omega)) rfl ?_ ?_ ?_ | ((first | apply gR | apply gC | apply gT | apply gE) <;> intro hq <;> (try simp only [nT, nF, n1, n0] at hq) <;> (have hb := hq) <;> (try simp only [dT, dF, eT, eF] at hb) <;> first | (exfalso; omega) | ((try simp only [hq]); clear hq))) <;> (try simp only [go_sem, qa, qb, qc, qd, qe, qf, qg, qh, qi, qj, qk, ql, qm, qn, qo, qp, qq, qr, qs, reduceIte, reduceCtorEq])) | refine Fits.of ?_ ?_ | (refine aL ?_ (fun hp => ?_) <;> ((try simp only [rowSet_fI hp, rowSet_fI2 hp]); (try simp only [rowSet_fB hp]))) | refine aE ?_ fun hp => ?_ | refine aC ?_ fun hp => ?_ | refine And.intro ?_ ?_ | clear hK K | clear hX hY X Y | clear hL L)
    all_goals first | omega | trace_state
  by_cases k3 : kind = 3
  · have e : c.on o ⟨kind, chain, height, n, ⟨seq, pk, src, dst, sum, till, ver⟩⟩ = c.send pk src dst sum till := by simp [Chain.on, k3]
    rw [e]
    refine CallX.of tok Tryz.func68 rfl rfl Tryz.ntmps68 Tryz.results68 rfl (by decide) (fun cx hnt hk0 => ?_)
    repeat' (first | refine AWp.seq fun K hK => ?_ | refine hK _ ?_; clear hK K | refine hX ?_; clear hX hY X Y | refine hY ?_; clear hX hY X Y | refine AWp.block ?_ | refine hL _ _ ?_ | ((first | refine AWp.region tok (by rw [hnt]; rfl) ?_ | refine AWp.cond' fun X Y hX hY => ?_ | refine AWp.skip ?_ | refine AWp.exit ?_ | refine AWp.ret ?_ | refine Fin.auto [] ?_ | refine runS_c [_, _, _, _, _, _, _, _] (l12Send_ok c pk src dst sum till ok1) rfl ?_ ?_ ?_ | refine AWp.draw (id := 15) tok mixed pl_StateNew_tree0 [] [3, 5] (by kernel_rfl) (by kernel_rfl) (by rw [hnt]; rfl) ?_ | refine effS_c [_, _, _, _, _, _, _, _] (l12Send_ok c pk src dst sum till ok1) rfl ?_ ?_ ?_ | ((first | apply gR | apply gC | apply gT | apply gE) <;> intro hq <;> (try simp only [nT, nF, n1, n0] at hq) <;> (have hb := hq) <;> (try simp only [dT, dF, eT, eF] at hb) <;> first | (exfalso; omega) | ((try simp only [hq]); clear hq))) <;> (try simp only [go_sem, qa, qb, qc, qd, qe, qf, qg, qh, qi, qj, qk, ql, qm, qn, qo, qp, qq, qr, qs, reduceIte, reduceCtorEq])) | refine Fits.of ?_ ?_ | (refine aL ?_ (fun hp => ?_) <;> ((try simp only [rowSet_fI hp, rowSet_fI2 hp]); (try simp only [rowSet_fB hp]))) | refine aE ?_ fun hp => ?_ | refine aC ?_ fun hp => ?_ | refine And.intro ?_ ?_ | clear hK K | clear hX hY X Y | clear hL L)
    all_goals first | omega | trace_state
  by_cases k8 : kind = 8
  · have e : c.on o ⟨kind, chain, height, n, ⟨seq, pk, src, dst, sum, till, ver⟩⟩ = c.move pk src dst sum := by simp [Chain.on, k8]
    rw [e]
    cases eB : c.bank.moveB pk src dst sum
    · have e1 : c.move pk src dst sum = c := by simp [Chain.move, eB]
      rw [e1]
      refine CallX.of tok Tryz.func68 rfl rfl Tryz.ntmps68 Tryz.results68 rfl (by decide) (fun cx hnt hk0 => ?_)
      repeat' (first | refine AWp.seq fun K hK => ?_ | refine hK _ ?_; clear hK K | refine hX ?_; clear hX hY X Y | refine hY ?_; clear hX hY X Y | refine AWp.block ?_ | refine hL _ _ ?_ | ((first | refine AWp.region tok (by rw [hnt]; rfl) ?_ | refine AWp.cond' fun X Y hX hY => ?_ | refine AWp.skip ?_ | refine AWp.exit ?_ | refine AWp.ret ?_ | refine Fin.auto [] ?_ | refine runS_v [] (BankMove_ok c.bank pk src dst sum (by omega) (by omega) (by omega)) ?_ ?_ ?_ ?_ ?_ | refine AWp.draw (id := 15) tok mixed pl_StateNew_tree0 [] [3, 5] (by kernel_rfl) (by kernel_rfl) (by rw [hnt]; rfl) ?_ | refine effS_v [] (BankMove_ok c.bank pk src dst sum (by omega) (by omega) (by omega)) ?_ ?_ ?_ ?_ ?_ | ((first | apply gR | apply gC | apply gT | apply gE) <;> intro hq <;> (try simp only [nT, nF, n1, n0] at hq) <;> (have hb := hq) <;> (try simp only [dT, dF, eT, eF] at hb) <;> first | (exfalso; omega) | ((try simp only [hq]); clear hq))) <;> (try simp only [go_sem, qa, qb, qc, qd, qe, qf, qg, qh, qi, qj, qk, ql, qm, qn, qo, qp, qq, qr, qs, reduceIte, reduceCtorEq, eB])) | refine Fits.of ?_ ?_ | (refine aL ?_ (fun hp => ?_) <;> ((try simp only [rowSet_fI hp, rowSet_fI2 hp]); (try simp only [rowSet_fB hp]))) | refine aE ?_ fun hp => ?_ | refine aC ?_ fun hp => ?_ | refine And.intro ?_ ?_ | clear hK K | clear hX hY X Y | clear hL L)
      all_goals first | omega | trace_state
    · have e1 : c.move pk src dst sum = { c with bank := c.bank.moved pk src dst sum } := by simp [Chain.move, Bank.moved, eB]
      rw [e1]
      refine CallX.of tok Tryz.func68 rfl rfl Tryz.ntmps68 Tryz.results68 rfl (by decide) (fun cx hnt hk0 => ?_)
      repeat' (first | refine AWp.seq fun K hK => ?_ | refine hK _ ?_; clear hK K | refine hX ?_; clear hX hY X Y | refine hY ?_; clear hX hY X Y | refine AWp.block ?_ | refine hL _ _ ?_ | ((first | refine AWp.region tok (by rw [hnt]; rfl) ?_ | refine AWp.cond' fun X Y hX hY => ?_ | refine AWp.skip ?_ | refine AWp.exit ?_ | refine AWp.ret ?_ | refine Fin.auto [] ?_ | refine runS_v [] (BankMove_ok c.bank pk src dst sum (by omega) (by omega) (by omega)) ?_ ?_ ?_ ?_ ?_ | refine AWp.draw (id := 15) tok mixed pl_StateNew_tree0 [] [3, 5] (by kernel_rfl) (by kernel_rfl) (by rw [hnt]; rfl) ?_ | refine effS_v [] (BankMove_ok c.bank pk src dst sum (by omega) (by omega) (by omega)) ?_ ?_ ?_ ?_ ?_ | ((first | apply gR | apply gC | apply gT | apply gE) <;> intro hq <;> (try simp only [nT, nF, n1, n0] at hq) <;> (have hb := hq) <;> (try simp only [dT, dF, eT, eF] at hb) <;> first | (exfalso; omega) | ((try simp only [hq]); clear hq))) <;> (try simp only [go_sem, qa, qb, qc, qd, qe, qf, qg, qh, qi, qj, qk, ql, qm, qn, qo, qp, qq, qr, qs, reduceIte, reduceCtorEq, eB])) | refine Fits.of ?_ ?_ | (refine aL ?_ (fun hp => ?_) <;> ((try simp only [rowSet_fI hp, rowSet_fI2 hp]); (try simp only [rowSet_fB hp]))) | refine aE ?_ fun hp => ?_ | refine aC ?_ fun hp => ?_ | refine And.intro ?_ ?_ | clear hK K | clear hX hY X Y | clear hL L)
      all_goals first | omega | trace_state
  by_cases k7 : kind = 7 ∧ (n = 1 ∨ n = 5)
  · have e : c.on o ⟨kind, chain, height, n, ⟨seq, pk, src, dst, sum, till, ver⟩⟩ = c.step State.new n := by simp [Chain.on, k7.1, k7.2]
    rw [e]
    obtain ⟨k7, kn⟩ := k7
    rcases kn with kn | kn
    · refine CallX.of tok Tryz.func68 rfl rfl Tryz.ntmps68 Tryz.results68 rfl (by decide) (fun cx hnt hk0 => ?_)
      
      repeat' (first | refine AWp.seq fun K hK => ?_ | refine hK _ ?_; clear hK K | refine hX ?_; clear hX hY X Y | refine hY ?_; clear hX hY X Y | refine AWp.block ?_ | refine hL _ _ ?_ | ((first | refine AWp.region tok (by rw [hnt]; rfl) ?_ | refine AWp.cond' fun X Y hX hY => ?_ | refine AWp.skip ?_ | refine AWp.exit ?_ | refine AWp.ret ?_ | refine Fin.auto [] ?_ | refine runS_c [] (StateNew_tree) rfl ?_ ?_ ?_ | refine runS_c [_, _, _, _, _, _, _, _] (l13Step_ok c State.new n ok1 state_new_ok) rfl ?_ ?_ ?_ | refine AWp.draw (id := 15) tok mixed pl_StateNew_tree0 [16, 18] [3, 5] (by kernel_rfl) (by kernel_rfl) (by rw [hnt]; rfl) ?_ | refine effS_c [] (StateNew_tree) rfl ?_ ?_ ?_ | refine effS_c [_, _, _, _, _, _, _, _] (l13Step_ok c State.new n ok1 state_new_ok) rfl ?_ ?_ ?_ | ((first | apply gR | apply gC | apply gT | apply gE) <;> intro hq <;> (try simp only [nT, nF, n1, n0] at hq) <;> (have hb := hq) <;> (try simp only [dT, dF, eT, eF] at hb) <;> first | (exfalso; omega) | ((try simp only [hq]); clear hq))) <;> (try simp only [go_sem, qa, qb, qc, qd, qe, qf, qg, qh, qi, qj, qk, ql, qm, qn, qo, qp, qq, qr, qs, reduceIte, reduceCtorEq])) | refine Fits.of ?_ ?_ | (refine aL ?_ (fun hp => ?_) <;> ((try simp only [rowSet_fI hp, rowSet_fI2 hp]); (try simp only [rowSet_fB hp]))) | refine aE ?_ fun hp => ?_ | refine aC ?_ fun hp => ?_ | refine And.intro ?_ ?_ | clear hK K | clear hX hY X Y | clear hL L)
      all_goals first | omega | trace_state
    · refine CallX.of tok Tryz.func68 rfl rfl Tryz.ntmps68 Tryz.results68 rfl (by decide) (fun cx hnt hk0 => ?_)
      
      repeat' (first | refine AWp.seq fun K hK => ?_ | refine hK _ ?_; clear hK K | refine hX ?_; clear hX hY X Y | refine hY ?_; clear hX hY X Y | refine AWp.block ?_ | refine hL _ _ ?_ | ((first | refine AWp.region tok (by rw [hnt]; rfl) ?_ | refine AWp.cond' fun X Y hX hY => ?_ | refine AWp.skip ?_ | refine AWp.exit ?_ | refine AWp.ret ?_ | refine Fin.auto [] ?_ | refine runS_c [] (StateNew_tree) rfl ?_ ?_ ?_ | refine runS_c [_, _, _, _, _, _, _, _] (l13Step_ok c State.new n ok1 state_new_ok) rfl ?_ ?_ ?_ | refine AWp.draw (id := 15) tok mixed pl_StateNew_tree0 [16, 18] [3, 5] (by kernel_rfl) (by kernel_rfl) (by rw [hnt]; rfl) ?_ | refine effS_c [] (StateNew_tree) rfl ?_ ?_ ?_ | refine effS_c [_, _, _, _, _, _, _, _] (l13Step_ok c State.new n ok1 state_new_ok) rfl ?_ ?_ ?_ | ((first | apply gR | apply gC | apply gT | apply gE) <;> intro hq <;> (try simp only [nT, nF, n1, n0] at hq) <;> (have hb := hq) <;> (try simp only [dT, dF, eT, eF] at hb) <;> first | (exfalso; omega) | ((try simp only [hq]); clear hq))) <;> (try simp only [go_sem, qa, qb, qc, qd, qe, qf, qg, qh, qi, qj, qk, ql, qm, qn, qo, qp, qq, qr, qs, reduceIte, reduceCtorEq])) | refine Fits.of ?_ ?_ | (refine aL ?_ (fun hp => ?_) <;> ((try simp only [rowSet_fI hp, rowSet_fI2 hp]); (try simp only [rowSet_fB hp]))) | refine aE ?_ fun hp => ?_ | refine aC ?_ fun hp => ?_ | refine And.intro ?_ ?_ | clear hK K | clear hX hY X Y | clear hL L)
      all_goals first | omega | trace_state
  · have e : c.on o ⟨kind, chain, height, n, ⟨seq, pk, src, dst, sum, till, ver⟩⟩ = c.relay o ⟨kind, chain, height, n, ⟨seq, pk, src, dst, sum, till, ver⟩⟩ := by
      simp [Chain.on, k1, k2, k3, k8, k7]
    rw [e]
    refine CallX.of tok Tryz.func68 rfl rfl Tryz.ntmps68 Tryz.results68 rfl (by decide) (fun cx hnt hk0 => ?_)
    repeat' (first | refine AWp.seq fun K hK => ?_ | refine hK _ ?_; clear hK K | refine hX ?_; clear hX hY X Y | refine hY ?_; clear hX hY X Y | refine AWp.block ?_ | refine hL _ _ ?_ | ((first | refine AWp.region tok (by rw [hnt]; rfl) ?_ | refine AWp.cond' fun X Y hX hY => ?_ | refine AWp.skip ?_ | refine AWp.exit ?_ | refine AWp.ret ?_ | refine Fin.auto [] ?_ | refine runS_c [_, _, _, _, _, _, _, _, _, _, _, _, _, _, _, _] (l21Relay_ok c o ⟨kind, chain, height, n, ⟨seq, pk, src, dst, sum, till, ver⟩⟩ ok1 ok2) rfl ?_ ?_ ?_ | refine AWp.draw (id := 15) tok mixed pl_StateNew_tree0 [] [3, 5] (by kernel_rfl) (by kernel_rfl) (by rw [hnt]; rfl) ?_ | refine effS_c [_, _, _, _, _, _, _, _, _, _, _, _, _, _, _, _] (l21Relay_ok c o ⟨kind, chain, height, n, ⟨seq, pk, src, dst, sum, till, ver⟩⟩ ok1 ok2) rfl ?_ ?_ ?_ | ((first | apply gR | apply gC | apply gT | apply gE) <;> intro hq <;> (try simp only [nT, nF, n1, n0] at hq) <;> (have hb := hq) <;> (try simp only [dT, dF, eT, eF] at hb) <;> first | (exfalso; omega) | ((try simp only [hq]); clear hq))) <;> (try simp only [go_sem, qa, qb, qc, qd, qe, qf, qg, qh, qi, qj, qk, ql, qm, qn, qo, qp, qq, qr, qs, reduceIte, reduceCtorEq])) | refine Fits.of ?_ ?_ | (refine aL ?_ (fun hp => ?_) <;> ((try simp only [rowSet_fI hp, rowSet_fI2 hp]); (try simp only [rowSet_fB hp]))) | refine aE ?_ fun hp => ?_ | refine aC ?_ fun hp => ?_ | refine And.intro ?_ ?_ | clear hK K | clear hX hY X Y | clear hL L)
    all_goals first | omega | (exfalso; exact k7 ⟨by assumption, by assumption⟩) | (exfalso; exact k7 ⟨by assumption, .inl (by assumption)⟩) | (exfalso; exact k7 ⟨by assumption, .inr (by assumption)⟩) | trace_state
end Go.Hw
/- What is proved: what happens in a world, in the reference. -/
set_option linter.all false
set_option maxRecDepth 100000
set_option maxHeartbeats 4000000
namespace Go.Hw
open Go.Proofs
open Nat renaming reduceDiv → qa, reduceMod → qb, reduceAdd → qc, reduceMul → qd, reduceSub → qe, reduceLeDiff → qf, reduceBEq → qg, reduceEqDiff → qh, reduceBeqDiff → qi, reduceLT → qj
open Int renaming reduceToNat → qk, reduceAdd → ql, reduceSub → qm, reduceNeg → qn, reduceLT → qo, reduceLE → qp, reduceEq → qq, reduceBEq → qr, reduceBNe → qs
open Go.Hw renaming runG_split → gR, condG_split → gC, takG_split → gT, effG_split → gE
def pl_l21Do_ok0 : Plan := (.tak 0 (.tak 1 (.tak 2 (.tak 3 (.tak 4 (.tak 5 (.tak 6 (.tak 7 (.tak 8 (.tak 9 (.tak 10 (.tak 12 (.tak 13 (.tak 14 (.tak 15 (.tak 16 (.tak 17 (.tak 19 (.all (.cons 11 (.all (.cons 18 (.all (.cons 20 (.tak 21 (.all (.cons 22 .done .nil))) .nil)) .nil)) (.cons 18 (.all (.cons 11 (.all (.cons 20 (.tak 21 (.all (.cons 22 .done .nil))) .nil)) .nil)) .nil)))))))))))))))))))))
attribute [go_sem] pl_l21Do_ok0
theorem l21Do_ok (w : Two) (ev : Event) (ok1 : w.a.ok = true) (ok2 : w.b.ok = true) : Call Tryz.prog 41 [.g (worldA 0), ev.av] (worldH w 0) 17 (.o (.g (worldA 17))) (worldH (w.on ev) 17) 34 := by
  obtain ⟨kind, chain, height, n, ⟨seq, pk, src, dst, sum, till, ver⟩⟩ := ev
  by_cases c1 : chain = 1
  · subst c1
    have e : w.on ⟨kind, 1, height, n, ⟨seq, pk, src, dst, sum, till, ver⟩⟩ = ⟨w.a.on w.b ⟨kind, 1, height, n, ⟨seq, pk, src, dst, sum, till, ver⟩⟩, w.b⟩ := by simp [Two.on]
    rw [e]
    have ei : In 1 1 2 = true := by decide
    refine CallX.of tok Tryz.func41 rfl rfl Tryz.ntmps41 Tryz.results41 rfl (by decide) (fun cx hnt hk0 => ?_)
    
    repeat' (first | refine AWp.seq fun K hK => ?_ | refine hK _ ?_; clear hK K | refine hX ?_; clear hX hY X Y | refine hY ?_; clear hX hY X Y | refine AWp.block ?_ | refine hL _ _ ?_ | ((first | refine AWp.region tok (by rw [hnt]; rfl) ?_ | refine AWp.cond' fun X Y hX hY => ?_ | refine AWp.skip ?_ | refine AWp.exit ?_ | refine AWp.ret ?_ | refine Fin.auto [] ?_ | refine runS_c [] (l6In_ok _ _ _) rfl ?_ ?_ ?_ | refine runS_c [_, _, _, _, _, _, _, _, _, _, _, _, _, _, _, _] (l21Chain_ok w.a w.b kind 1 height n seq pk src dst sum till ver ok1 ok2) rfl ?_ ?_ ?_ | refine AWp.draw (id := 3) tok mixed pl_l21Do_ok0 [17, 18] [2, 3] (by kernel_rfl) (by kernel_rfl) (by rw [hnt]; rfl) ?_ | refine effS_c [] (l6In_ok _ _ _) rfl ?_ ?_ ?_ | refine effS_c [_, _, _, _, _, _, _, _, _, _, _, _, _, _, _, _] (l21Chain_ok w.a w.b kind 1 height n seq pk src dst sum till ver ok1 ok2) rfl ?_ ?_ ?_ | ((first | apply gR | apply gC | apply gT | apply gE) <;> intro hq <;> (try simp only [nT, nF, n1, n0] at hq) <;> (have hb := hq) <;> (try simp only [dT, dF, eT, eF] at hb) <;> first | (exfalso; omega) | ((try simp only [hq]); clear hq))) <;> (try simp only [go_sem, qa, qb, qc, qd, qe, qf, qg, qh, qi, qj, qk, ql, qm, qn, qo, qp, qq, qr, qs, reduceIte, reduceCtorEq, ei])) | refine Fits.of ?_ ?_ | (refine aL ?_ (fun hp => ?_) <;> ((try simp only [rowSet_fI hp, rowSet_fI2 hp]); (try simp only [rowSet_fB hp]))) | refine aE ?_ fun hp => ?_ | refine aC ?_ fun hp => ?_ | refine And.intro ?_ ?_ | clear hK K | clear hX hY X Y | clear hL L)
    all_goals first | omega | trace_state
  by_cases c2 : chain = 2
  · subst c2
    have e : w.on ⟨kind, 2, height, n, ⟨seq, pk, src, dst, sum, till, ver⟩⟩ = ⟨w.a, w.b.on w.a ⟨kind, 2, height, n, ⟨seq, pk, src, dst, sum, till, ver⟩⟩⟩ := by simp [Two.on]
    rw [e]
    have ei : In 2 1 2 = true := by decide
    refine CallX.of tok Tryz.func41 rfl rfl Tryz.ntmps41 Tryz.results41 rfl (by decide) (fun cx hnt hk0 => ?_)
    
    repeat' (first | refine AWp.seq fun K hK => ?_ | refine hK _ ?_; clear hK K | refine hX ?_; clear hX hY X Y | refine hY ?_; clear hX hY X Y | refine AWp.block ?_ | refine hL _ _ ?_ | ((first | refine AWp.region tok (by rw [hnt]; rfl) ?_ | refine AWp.cond' fun X Y hX hY => ?_ | refine AWp.skip ?_ | refine AWp.exit ?_ | refine AWp.ret ?_ | refine Fin.auto [] ?_ | refine runS_c [] (l6In_ok _ _ _) rfl ?_ ?_ ?_ | refine runS_c [_, _, _, _, _, _, _, _, _, _, _, _, _, _, _, _] (l21Chain_ok w.b w.a kind 2 height n seq pk src dst sum till ver ok2 ok1) rfl ?_ ?_ ?_ | refine AWp.draw (id := 3) tok mixed pl_l21Do_ok0 [17, 18] [2, 3] (by kernel_rfl) (by kernel_rfl) (by rw [hnt]; rfl) ?_ | refine effS_c [] (l6In_ok _ _ _) rfl ?_ ?_ ?_ | refine effS_c [_, _, _, _, _, _, _, _, _, _, _, _, _, _, _, _] (l21Chain_ok w.b w.a kind 2 height n seq pk src dst sum till ver ok2 ok1) rfl ?_ ?_ ?_ | ((first | apply gR | apply gC | apply gT | apply gE) <;> intro hq <;> (try simp only [nT, nF, n1, n0] at hq) <;> (have hb := hq) <;> (try simp only [dT, dF, eT, eF] at hb) <;> first | (exfalso; omega) | ((try simp only [hq]); clear hq))) <;> (try simp only [go_sem, qa, qb, qc, qd, qe, qf, qg, qh, qi, qj, qk, ql, qm, qn, qo, qp, qq, qr, qs, reduceIte, reduceCtorEq, ei])) | refine Fits.of ?_ ?_ | (refine aL ?_ (fun hp => ?_) <;> ((try simp only [rowSet_fI hp, rowSet_fI2 hp]); (try simp only [rowSet_fB hp]))) | refine aE ?_ fun hp => ?_ | refine aC ?_ fun hp => ?_ | refine And.intro ?_ ?_ | clear hK K | clear hX hY X Y | clear hL L)
    all_goals first | omega | trace_state
  · have e : w.on ⟨kind, chain, height, n, ⟨seq, pk, src, dst, sum, till, ver⟩⟩ = w := by simp [Two.on, c1, c2]
    rw [e]
    have ei : In chain 1 2 = false := by
      cases h : In chain 1 2 with
      | false => rfl
      | true => rw [In_iff] at h; omega
    refine CallX.of tok Tryz.func41 rfl rfl Tryz.ntmps41 Tryz.results41 rfl (by decide) (fun cx hnt hk0 => ?_)
    
    repeat' (first | refine AWp.seq fun K hK => ?_ | refine hK _ ?_; clear hK K | refine hX ?_; clear hX hY X Y | refine hY ?_; clear hX hY X Y | refine AWp.block ?_ | refine hL _ _ ?_ | ((first | refine AWp.region tok (by rw [hnt]; rfl) ?_ | refine AWp.cond' fun X Y hX hY => ?_ | refine AWp.skip ?_ | refine AWp.exit ?_ | refine AWp.ret ?_ | refine Fin.auto [] ?_ | refine runS_c [] (l6In_ok _ _ _) rfl ?_ ?_ ?_ | refine AWp.draw (id := 3) tok mixed pl_l21Do_ok0 [17, 18] [2, 3] (by kernel_rfl) (by kernel_rfl) (by rw [hnt]; rfl) ?_ | refine effS_c [] (l6In_ok _ _ _) rfl ?_ ?_ ?_ | ((first | apply gR | apply gC | apply gT | apply gE) <;> intro hq <;> (try simp only [nT, nF, n1, n0] at hq) <;> (have hb := hq) <;> (try simp only [dT, dF, eT, eF] at hb) <;> first | (exfalso; omega) | ((try simp only [hq]); clear hq))) <;> (try simp only [go_sem, qa, qb, qc, qd, qe, qf, qg, qh, qi, qj, qk, ql, qm, qn, qo, qp, qq, qr, qs, reduceIte, reduceCtorEq, ei])) | refine Fits.of ?_ ?_ | (refine aL ?_ (fun hp => ?_) <;> ((try simp only [rowSet_fI hp, rowSet_fI2 hp]); (try simp only [rowSet_fB hp]))) | refine aE ?_ fun hp => ?_ | refine aC ?_ fun hp => ?_ | refine And.intro ?_ ?_ | clear hK K | clear hX hY X Y | clear hL L)
    all_goals first | omega | trace_state
end Go.Hw
/- What is proved: a play, in the reference. -/
set_option linter.all false
set_option maxRecDepth 100000
set_option maxHeartbeats 4000000
namespace Go.Hw
open Go.Proofs
open Nat renaming reduceDiv → qa, reduceMod → qb, reduceAdd → qc, reduceMul → qd, reduceSub → qe, reduceLeDiff → qf, reduceBEq → qg, reduceEqDiff → qh, reduceBeqDiff → qi, reduceLT → qj
open Int renaming reduceToNat → qk, reduceAdd → ql, reduceSub → qm, reduceNeg → qn, reduceLT → qo, reduceLE → qp, reduceEq → qq, reduceBEq → qr, reduceBNe → qs
open Go.Hw renaming runG_split → gR, condG_split → gC, takG_split → gT, effG_split → gE
def pl_ChainNew_ok0 : Plan := (.tak 1 (.tak 2 (.tak 3 (.tak 4 (.all (.cons 0 (.all (.cons 5 (.all (.cons 6 .done .nil)) .nil)) .nil))))))
attribute [go_sem] pl_ChainNew_ok0
theorem ChainNew_ok (id : Int) (h : In id 1 2 = true) : Call Tryz.prog 66 [I id] [] 0 (.tup [.g (chainA (Chain.new id) 0), BB true]) (chainH (Chain.new id) 0) 8 := by
  refine CallX.of tok Tryz.func66 rfl rfl Tryz.ntmps66 Tryz.results66 rfl (by decide) (fun cx hnt hk0 => ?_)
  repeat' (first | refine AWp.seq fun K hK => ?_ | refine hK _ ?_; clear hK K | refine hX ?_; clear hX hY X Y | refine hY ?_; clear hX hY X Y | refine AWp.block ?_ | refine hL _ _ ?_ | ((first | refine AWp.region tok (by rw [hnt]; rfl) ?_ | refine AWp.cond' fun X Y hX hY => ?_ | refine AWp.skip ?_ | refine AWp.exit ?_ | refine AWp.ret ?_ | refine Fin.auto [] ?_ | refine runS_c [] (l6In_ok _ _ _) rfl ?_ ?_ ?_ | refine runS_c [] (BankNew_ok) rfl ?_ ?_ ?_ | refine runS_c [] (StateNew_ok) rfl ?_ ?_ ?_ | ((first | apply gR | apply gC) <;> intro hq <;> (try simp only [nT, nF, n1, n0] at hq) <;> (have hb := hq) <;> (try simp only [dT, dF, eT, eF] at hb) <;> first | (exfalso; omega) | ((try simp only [hq]); clear hq))) <;> (try simp only [go_sem, qa, qb, qc, qd, qe, qf, qg, qh, qi, qj, qk, ql, qm, qn, qo, qp, qq, qr, qs, reduceIte, reduceCtorEq, h, Chain.new, Bank.new, State.new])) | refine Fits.of ?_ ?_ | (refine aL ?_ (fun hp => ?_) <;> ((try simp only [rowSet_fI hp, rowSet_fI2 hp]); (try simp only [rowSet_fB hp]))) | refine aE ?_ fun hp => ?_ | refine aC ?_ fun hp => ?_ | refine And.intro ?_ ?_ | clear hK K | clear hX hY X Y | clear hL L)
  all_goals trace_state
theorem WorldNew_ok : Call Tryz.prog 40 [] [] 0 (.o (.g (worldA 0))) (worldH Two.new 0) 17 := by
  have h1 : In 1 1 2 = true := by decide
  have h2 : In 2 1 2 = true := by decide
  refine CallX.of tok Tryz.func40 rfl rfl Tryz.ntmps40 Tryz.results40 rfl (by decide) (fun cx hnt hk0 => ?_)
  repeat' (first | refine AWp.seq fun K hK => ?_ | refine hK _ ?_; clear hK K | refine hX ?_; clear hX hY X Y | refine hY ?_; clear hX hY X Y | refine AWp.block ?_ | refine hL _ _ ?_ | ((first | refine AWp.region tok (by rw [hnt]; rfl) ?_ | refine AWp.cond' fun X Y hX hY => ?_ | refine AWp.skip ?_ | refine AWp.exit ?_ | refine AWp.ret ?_ | refine Fin.auto [] ?_ | refine runS_c [] (ChainNew_ok 1 h1) rfl ?_ ?_ ?_ | refine runS_c [] (ChainNew_ok 2 h2) rfl ?_ ?_ ?_ | ((first | apply gR | apply gC) <;> intro hq <;> (try simp only [nT, nF, n1, n0] at hq) <;> (have hb := hq) <;> (try simp only [dT, dF, eT, eF] at hb) <;> first | (exfalso; omega) | ((try simp only [hq]); clear hq))) <;> (try simp only [go_sem, qa, qb, qc, qd, qe, qf, qg, qh, qi, qj, qk, ql, qm, qn, qo, qp, qq, qr, qs, reduceIte, reduceCtorEq, Two.new])) | refine Fits.of ?_ ?_ | (refine aL ?_ (fun hp => ?_) <;> ((try simp only [rowSet_fI hp, rowSet_fI2 hp]); (try simp only [rowSet_fB hp]))) | refine aE ?_ fun hp => ?_ | refine aC ?_ fun hp => ?_ | refine And.intro ?_ ?_ | clear hK K | clear hX hY X Y | clear hL L)
  all_goals trace_state
theorem play_take (es : List Event) (i : Nat) (h : i < es.length) : Two.new.play (es.take (i + 1)) = (Two.new.play (es.take i)).on (es.getD i default) := by
  unfold Two.play
  rw [List.take_succ, List.foldl_append]
  simp [List.getD, h]
theorem play_ok (es : List Event) : (Two.new.play es).a.ok = true ∧ (Two.new.play es).b.ok = true := by
  have : ∀ (es : List Event) (w : Two), (w.a.ok = true ∧ w.b.ok = true) → (w.play es).a.ok = true ∧ (w.play es).b.ok = true := by
    intro es
    induction es with
    | nil => intro w h; exact h
    | cons e es ih => intro w h; exact ih _ (two_on_ok h)
  exact this es _ two_new_ok
theorem WorldPlay_no (es : List Event) (h : 60 < es.length) : Call Tryz.prog 21 [.c (.t (eventsT es))] [] 0 (.tup [.g [.t (chainsT [])], BB false]) [] 0 := by
  refine CallX.of tok Tryz.func21 rfl rfl Tryz.ntmps21 Tryz.results21 rfl (by decide) (fun cx hnt hk0 => ?_)
  repeat' (first | refine AWp.seq fun K hK => ?_ | refine hK _ ?_; clear hK K | refine hX ?_; clear hX hY X Y | refine hY ?_; clear hX hY X Y | refine AWp.block ?_ | refine hL _ _ ?_ | ((first | refine AWp.region tok (by rw [hnt]; rfl) ?_ | refine AWp.cond' fun X Y hX hY => ?_ | refine AWp.skip ?_ | refine AWp.exit ?_ | refine AWp.ret ?_ | refine Fin.auto [] ?_ | refine AWp.draw (id := 7) tok mixed pl_ChainNew_ok0 [] [0, 4, 5] (by kernel_rfl) (by kernel_rfl) (by rw [hnt]; rfl) ?_ | ((first | apply gR | apply gC | apply gT | apply gE) <;> intro hq <;> (try simp only [nT, nF, n1, n0] at hq) <;> (have hb := hq) <;> (try simp only [dT, dF, eT, eF] at hb) <;> first | (exfalso; omega) | ((try simp only [hq]); clear hq))) <;> (try simp only [go_sem, qa, qb, qc, qd, qe, qf, qg, qh, qi, qj, qk, ql, qm, qn, qo, qp, qq, qr, qs, reduceIte, reduceCtorEq])) | refine Fits.of ?_ ?_ | (refine aL ?_ (fun hp => ?_) <;> ((try simp only [rowSet_fI hp, rowSet_fI2 hp]); (try simp only [rowSet_fB hp]))) | refine aE ?_ fun hp => ?_ | refine aC ?_ fun hp => ?_ | refine And.intro ?_ ?_ | clear hK K | clear hX hY X Y | clear hL L)
  all_goals first | omega | trace_state
theorem WorldPlay_ok (es : List Event) (h : es.length ≤ 60) : Call Tryz.prog 21 [.c (.t (eventsT es))] [] 0 (.tup [.g [.t (chainsT (Two.new.play es).list)], BB true]) [] 0 := by
  refine CallX.of tok Tryz.func21 rfl rfl Tryz.ntmps21 Tryz.results21 rfl (by decide) (fun cx hnt hk0 => ?_)
  repeat' (first | refine AWp.seq fun K hK => ?_ | refine hK _ ?_; clear hK K | refine hX ?_; clear hX hY X Y | refine hY ?_; clear hX hY X Y | refine AWp.block ?_ | refine hL _ _ ?_ | ((first | refine AWp.region tok (by rw [hnt]; rfl) ?_ | refine AWp.cond' fun X Y hX hY => ?_ | refine AWp.skip ?_ | refine AWp.exit ?_ | refine AWp.ret ?_ | refine Fin.auto [] ?_ | refine runS_c [] (WorldNew_ok) rfl ?_ ?_ ?_ | refine AWp.draw (id := 7) tok mixed pl_ChainNew_ok0 [] [0, 4, 5] (by kernel_rfl) (by kernel_rfl) (by rw [hnt]; rfl) ?_ | refine effS_c [] (WorldNew_ok) rfl ?_ ?_ ?_ | ((first | apply gR | apply gC | apply gT | apply gE) <;> intro hq <;> (try simp only [nT, nF, n1, n0] at hq) <;> (have hb := hq) <;> (try simp only [dT, dF, eT, eF] at hb) <;> first | (exfalso; omega) | ((try simp only [hq]); clear hq))) <;> (try simp only [go_sem, qa, qb, qc, qd, qe, qf, qg, qh, qi, qj, qk, ql, qm, qn, qo, qp, qq, qr, qs, reduceIte, reduceCtorEq])) | refine Fits.of ?_ ?_ | (refine aL ?_ (fun hp => ?_) <;> ((try simp only [rowSet_fI hp, rowSet_fI2 hp]); (try simp only [rowSet_fB hp]))) | refine aE ?_ fun hp => ?_ | refine aC ?_ fun hp => ?_ | refine And.intro ?_ ?_ | clear hK K | clear hX hY X Y | clear hL L)
  all_goals try omega
  refine AWp.loop (fun i : Nat => ⟨[(0, .o (.c (.t (eventsT es)))), (2, .o (.c (.ptr 0 0 0 0))), (4, .o (.c (.ptr 1 0 0 0))), (5, .o (I i))], (1, .box (worldA 2)) :: (0, .box [.t (.v (.slice none 0 0))]) :: worldH (Two.new.play (es.take i)) 2, 19⟩) (fun i => i ≤ es.length) (fun i => es.length - i) 0 (Nat.zero_le _) ?_ ?_
  · refine SLe.auto hk0 [] ?_; simp only [go_sem, qa, qb, qc, qd, qe, qf, qg, qh, qi, qj, qk, ql, qm, qn, qo, qp, qq, qr, qs, reduceIte, reduceCtorEq, List.take_zero, Two.play, List.foldl_nil]
    all_goals simp
  intro i hi
  obtain ⟨o1, o2⟩ := play_ok (es.take i)
  
  
  repeat' (first | refine AWp.seq fun K hK => ?_ | refine hK _ ?_; clear hK K | refine hX ?_; clear hX hY X Y | refine hY ?_; clear hX hY X Y | refine AWp.block ?_ | refine hL _ _ ?_ | ((first | refine AWp.region tok (by rw [hnt]; rfl) ?_ | refine AWp.cond' fun X Y hX hY => ?_ | refine AWp.skip ?_ | refine AWp.exit ?_ | refine AWp.ret ?_ | refine Fin.auto [2, 3, 4, 5, 6, 7, 8, 9, 10, 11, 12, 13, 14, 15, 16, 17, 18] ?_ | refine runS_c [2, 3, 4, 5, 6, 7, 8, 9, 10, 11, 12, 13, 14, 15, 16, 17, 18] (l21Do_ok (Two.new.play (es.take i)) (es.getD i default) o1 o2) rfl ?_ ?_ ?_ | refine AWp.draw (id := 7) tok mixed pl_ChainNew_ok0 [] [0, 4, 5] (by kernel_rfl) (by kernel_rfl) (by rw [hnt]; rfl) ?_ | refine effS_c [2, 3, 4, 5, 6, 7, 8, 9, 10, 11, 12, 13, 14, 15, 16, 17, 18] (l21Do_ok (Two.new.play (es.take i)) (es.getD i default) o1 o2) rfl ?_ ?_ ?_ | refine SLe.auto hk0 [] ?_ | ((first | apply gR | apply gC | apply gT | apply gE) <;> intro hq <;> (try simp only [nT, nF, n1, n0] at hq) <;> (have hb := hq) <;> (try simp only [dT, dF, eT, eF] at hb) <;> first | (exfalso; omega) | ((try simp only [hq]); clear hq))) <;> (try simp only [go_sem, qa, qb, qc, qd, qe, qf, qg, qh, qi, qj, qk, ql, qm, qn, qo, qp, qq, qr, qs, reduceIte, reduceCtorEq])) | refine ⟨i + 1, ?_, ?_, ?_⟩ | refine Fits.of ?_ ?_ | (refine aL ?_ (fun hp => ?_) <;> ((try simp only [rowSet_fI hp, rowSet_fI2 hp]); (try simp only [rowSet_fB hp]))) | refine aE ?_ fun hp => ?_ | refine aC ?_ fun hp => ?_ | refine And.intro ?_ ?_ | clear hK K | clear hX hY X Y | clear hL L)
  all_goals try (first | omega | (simp only [decide_eq_true_eq, decide_eq_false_iff_not, decide_eq_decide]; omega))
  all_goals try (first | (rw [play_take es i (by omega)]; done) | (rw [play_take es i (by omega)]; simp [rle_fI, rle_fB, rle_fP, rle_fS]; done))
  all_goals try (have ei : i = es.length := by omega
                 subst ei; simp [Two.list, List.take_length, tlr_fI, tlr_fB, tlr_fP, tlr_fS]; done)
  all_goals trace_state
end Go.Hw
