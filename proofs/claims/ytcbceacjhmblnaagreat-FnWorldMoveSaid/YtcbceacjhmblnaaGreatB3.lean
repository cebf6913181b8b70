/- What is proved here: parts W15, W16, W17, W24 of the walk of the law and of its plain side; no condition but those that each theorem states. -/
import Derived.Test.YtcbceacjhmblnaaGreatB2
/- What is proved: what the reference lets a chain know of a packet of its own. -/
set_option linter.all false
set_option maxRecDepth 100000
set_option maxHeartbeats 4000000
namespace Go.Hw
open Go.Proofs
open Nat renaming reduceDiv → qa, reduceMod → qb, reduceAdd → qc, reduceMul → qd, reduceSub → qe, reduceLeDiff → qf, reduceBEq → qg, reduceEqDiff → qh, reduceBeqDiff → qi, reduceLT → qj
open Int renaming reduceToNat → qk, reduceAdd → ql, reduceSub → qm, reduceNeg → qn, reduceLT → qo, reduceLE → qp, reduceEq → qq, reduceBEq → qr, reduceBNe → qs
open Go.Hw renaming runG_split → gR, condG_split → gC, takG_split → gT, effG_split → gE
def pl_mine_iff0 : Plan := (.tak 0 (.tak 1 (.tak 2 (.tak 3 (.tak 4 (.tak 5 (.tak 6 (.tak 7 (.tak 8 (.all (.cons 9 (.all (.cons 10 (.tak 11 .done) .nil)) .nil)))))))))))
attribute [go_sem] pl_mine_iff0
theorem mine_iff {c : Chain} {seq : Int} (h : c.mine seq = true) : 1 ≤ seq ∧ seq ≤ c.state.sent.length := by
  simp only [Chain.mine, Bool.and_eq_true, In_iff] at h; exact h.1
theorem l13Tell_ok (c : Chain) (s : State) (seq : Int) (ok1 : c.ok = true) (ok2 : s.ok = true) : Call Tryz.prog 108 [.g (chainA c 0), s.av, I seq] (chainH c 0) 8 (.tup [.g (chainA (c.tell s seq) 8), BB (c.tellB s seq)]) (chainH (c.tell s seq) 8) 16 := by
  obtain ⟨q1, q2, q3, q4, q5, q6⟩ := chain_ok ok1
  obtain ⟨r1, r2, r3, r4, r5, r6, r7, r8, r9⟩ := state_ok q3
  obtain ⟨t1, t2, t3, t4, t5, t6, t7, t8, t9⟩ := state_ok ok2
  cases em : c.mine seq
  · have e : c.tellB s seq = false := by simp [Chain.tellB, em]
    have e1 : c.tell s seq = c := by simp [Chain.tell, e]
    rw [e1, e]
    refine CallX.of tok Tryz.func108 rfl rfl Tryz.ntmps108 Tryz.results108 rfl (by decide) (fun cx hnt hk0 => ?_)
    repeat' (first | refine AWp.seq fun K hK => ?_ | refine hK _ ?_; clear hK K | refine hX ?_; clear hX hY X Y | refine hY ?_; clear hX hY X Y | refine AWp.block ?_ | refine hL _ _ ?_ | ((first | refine AWp.region tok (by rw [hnt]; rfl) ?_ | refine AWp.cond' fun X Y hX hY => ?_ | refine AWp.skip ?_ | refine AWp.exit ?_ | refine AWp.ret ?_ | refine Fin.auto [] ?_ | refine runS_v [] (l13Mine_ok c seq (by omega) (by omega)) ?_ ?_ ?_ ?_ ?_ | refine AWp.draw (id := 3) tok mixed pl_mine_iff0 [] [2, 3, 4, 6] (by kernel_rfl) (by kernel_rfl) (by rw [hnt]; rfl) ?_ | refine effS_v [] (l13Mine_ok c seq (by omega) (by omega)) ?_ ?_ ?_ ?_ ?_ | ((first | apply gR | apply gC | apply gT | apply gE) <;> intro hq <;> (try simp only [nT, nF, n1, n0] at hq) <;> (have hb := hq) <;> (try simp only [dT, dF, eT, eF] at hb) <;> first | (exfalso; omega) | ((try simp only [hq]); clear hq))) <;> (try simp only [go_sem, qa, qb, qc, qd, qe, qf, qg, qh, qi, qj, qk, ql, qm, qn, qo, qp, qq, qr, qs, reduceIte, reduceCtorEq, em])) | refine Fits.of ?_ ?_ | (refine aL ?_ (fun hp => ?_) <;> ((try simp only [rowSet_fI hp, rowSet_fI2 hp]); (try simp only [rowSet_fB hp]))) | refine aE ?_ fun hp => ?_ | refine aC ?_ fun hp => ?_ | refine And.intro ?_ ?_ | clear hK K | clear hX hY X Y | clear hL L)
    all_goals first | omega | trace_state
  · have hs := mine_iff em
    by_cases eg : s.got.getD (seq - 1).toNat 0 = 0
    · have e : c.tellB s seq = false := by
        have eg2 : s.gotAt seq = 0 := eg
        simp [Chain.tellB, eg2]
      have e1 : c.tell s seq = c := by simp [Chain.tell, e]
      rw [e1, e]
      refine CallX.of tok Tryz.func108 rfl rfl Tryz.ntmps108 Tryz.results108 rfl (by decide) (fun cx hnt hk0 => ?_)
      repeat' (first | refine AWp.seq fun K hK => ?_ | refine hK _ ?_; clear hK K | refine hX ?_; clear hX hY X Y | refine hY ?_; clear hX hY X Y | refine AWp.block ?_ | refine hL _ _ ?_ | ((first | refine AWp.region tok (by rw [hnt]; rfl) ?_ | refine AWp.cond' fun X Y hX hY => ?_ | refine AWp.skip ?_ | refine AWp.exit ?_ | refine AWp.ret ?_ | refine Fin.auto [] ?_ | refine runS_v [] (l13Mine_ok c seq (by omega) (by omega)) ?_ ?_ ?_ ?_ ?_ | refine AWp.draw (id := 3) tok mixed pl_mine_iff0 [] [2, 3, 4, 6] (by kernel_rfl) (by kernel_rfl) (by rw [hnt]; rfl) ?_ | refine effS_v [] (l13Mine_ok c seq (by omega) (by omega)) ?_ ?_ ?_ ?_ ?_ | ((first | apply gR | apply gC | apply gT | apply gE) <;> intro hq <;> (try simp only [nT, nF, n1, n0] at hq) <;> (have hb := hq) <;> (try simp only [dT, dF, eT, eF] at hb) <;> first | (exfalso; omega) | ((try simp only [hq]); clear hq))) <;> (try simp only [go_sem, qa, qb, qc, qd, qe, qf, qg, qh, qi, qj, qk, ql, qm, qn, qo, qp, qq, qr, qs, reduceIte, reduceCtorEq, em])) | refine Fits.of ?_ ?_ | (refine aL ?_ (fun hp => ?_) <;> ((try simp only [rowSet_fI hp, rowSet_fI2 hp]); (try simp only [rowSet_fB hp]))) | refine aE ?_ fun hp => ?_ | refine aC ?_ fun hp => ?_ | refine And.intro ?_ ?_ | clear hK K | clear hX hY X Y | clear hL L)
      all_goals first | omega | trace_state
    · have e : c.tellB s seq = true := by
        have eg2 : ¬ s.gotAt seq = 0 := eg
        simp [Chain.tellB, eg2, em]
      have e1 : c.tell s seq = c.settle seq (decide (s.got.getD (seq - 1).toNat 0 = 2)) := by simp only [Chain.tell, e, if_true]; rfl
      rw [e1, e]
      refine CallX.of tok Tryz.func108 rfl rfl Tryz.ntmps108 Tryz.results108 rfl (by decide) (fun cx hnt hk0 => ?_)
      
      repeat' (first | refine AWp.seq fun K hK => ?_ | refine hK _ ?_; clear hK K | refine hX ?_; clear hX hY X Y | refine hY ?_; clear hX hY X Y | refine AWp.block ?_ | refine hL _ _ ?_ | ((first | refine AWp.region tok (by rw [hnt]; rfl) ?_ | refine AWp.cond' fun X Y hX hY => ?_ | refine AWp.skip ?_ | refine AWp.exit ?_ | refine AWp.ret ?_ | refine Fin.auto [] ?_ | refine runS_v [] (l13Mine_ok c seq (by omega) (by omega)) ?_ ?_ ?_ ?_ ?_ | refine runS_c [_, _, _, _, _, _, _, _] (l13Settle_ok c seq (decide (s.got.getD (seq - 1).toNat 0 = 2)) ok1 hs) rfl ?_ ?_ ?_ | refine AWp.draw (id := 3) tok mixed pl_mine_iff0 [8, 9] [2, 3, 4, 6] (by kernel_rfl) (by kernel_rfl) (by rw [hnt]; rfl) ?_ | refine effS_v [] (l13Mine_ok c seq (by omega) (by omega)) ?_ ?_ ?_ ?_ ?_ | refine effS_c [_, _, _, _, _, _, _, _] (l13Settle_ok c seq (decide (s.got.getD (seq - 1).toNat 0 = 2)) ok1 hs) rfl ?_ ?_ ?_ | ((first | apply gR | apply gC | apply gT | apply gE) <;> intro hq <;> (try simp only [nT, nF, n1, n0] at hq) <;> (have hb := hq) <;> (try simp only [dT, dF, eT, eF] at hb) <;> first | (exfalso; omega) | ((try simp only [hq]); clear hq))) <;> (try simp only [go_sem, qa, qb, qc, qd, qe, qf, qg, qh, qi, qj, qk, ql, qm, qn, qo, qp, qq, qr, qs, reduceIte, reduceCtorEq, em])) | refine Fits.of ?_ ?_ | (refine aL ?_ (fun hp => ?_) <;> ((try simp only [rowSet_fI hp, rowSet_fI2 hp]); (try simp only [rowSet_fB hp]))) | refine aE ?_ fun hp => ?_ | refine aC ?_ fun hp => ?_ | refine And.intro ?_ ?_ | clear hK K | clear hX hY X Y | clear hL L)
      all_goals first | omega | trace_state
theorem l13Late_ok (c : Chain) (s : State) (h seq : Int) (ok1 : c.ok = true) (ok2 : s.ok = true) : Call Tryz.prog 109 [.g (chainA c 0), s.av, I h, I seq] (chainH c 0) 8 (.tup [.g (chainA (c.late s h seq) 8), BB (c.lateB s h seq)]) (chainH (c.late s h seq) 8) 16 := by
  obtain ⟨q1, q2, q3, q4, q5, q6⟩ := chain_ok ok1
  obtain ⟨r1, r2, r3, r4, r5, r6, r7, r8, r9⟩ := state_ok q3
  obtain ⟨t1, t2, t3, t4, t5, t6, t7, t8, t9⟩ := state_ok ok2
  cases e : c.lateB s h seq
  · have e1 : c.late s h seq = c := by simp [Chain.late, e]
    rw [e1]
    cases em : c.mine seq
    · refine CallX.of tok Tryz.func109 rfl rfl Tryz.ntmps109 Tryz.results109 rfl (by decide) (fun cx hnt hk0 => ?_)
      repeat' (first | refine AWp.seq fun K hK => ?_ | refine hK _ ?_; clear hK K | refine hX ?_; clear hX hY X Y | refine hY ?_; clear hX hY X Y | refine AWp.block ?_ | refine hL _ _ ?_ | ((first | refine AWp.region tok (by rw [hnt]; rfl) ?_ | refine AWp.cond' fun X Y hX hY => ?_ | refine AWp.skip ?_ | refine AWp.exit ?_ | refine AWp.ret ?_ | refine Fin.auto [] ?_ | refine runS_v [] (l13Mine_ok c seq (by omega) (by omega)) ?_ ?_ ?_ ?_ ?_ | ((first | apply gR | apply gC) <;> intro hq <;> (try simp only [nT, nF, n1, n0] at hq) <;> (have hb := hq) <;> (try simp only [dT, dF, eT, eF] at hb) <;> first | (exfalso; omega) | ((try simp only [hq]); clear hq))) <;> (try simp only [go_sem, qa, qb, qc, qd, qe, qf, qg, qh, qi, qj, qk, ql, qm, qn, qo, qp, qq, qr, qs, reduceIte, reduceCtorEq, em])) | refine Fits.of ?_ ?_ | (refine aL ?_ (fun hp => ?_) <;> ((try simp only [rowSet_fI hp, rowSet_fI2 hp]); (try simp only [rowSet_fB hp]))) | refine aE ?_ fun hp => ?_ | refine aC ?_ fun hp => ?_ | refine And.intro ?_ ?_ | clear hK K | clear hX hY X Y | clear hL L)
      all_goals first | omega | trace_state
    · have hs := mine_iff em
      have e2 : (c.state.sent.getD (seq - 1).toNat default).till ≤ h → s.got.getD (seq - 1).toNat 0 ≠ 0 := by
        intro h1 h2
        have h1' : (c.sentAt seq).till ≤ h := h1
        have h2' : s.gotAt seq = 0 := h2
        simp [Chain.lateB, em, h1', h2'] at e
      refine CallX.of tok Tryz.func109 rfl rfl Tryz.ntmps109 Tryz.results109 rfl (by decide) (fun cx hnt hk0 => ?_)
      repeat' (first | refine AWp.seq fun K hK => ?_ | refine hK _ ?_; clear hK K | refine hX ?_; clear hX hY X Y | refine hY ?_; clear hX hY X Y | refine AWp.block ?_ | refine hL _ _ ?_ | ((first | refine AWp.region tok (by rw [hnt]; rfl) ?_ | refine AWp.cond' fun X Y hX hY => ?_ | refine AWp.skip ?_ | refine AWp.exit ?_ | refine AWp.ret ?_ | refine Fin.auto [] ?_ | refine runS_v [] (l13Mine_ok c seq (by omega) (by omega)) ?_ ?_ ?_ ?_ ?_ | ((first | apply gR | apply gC) <;> intro hq <;> (try simp only [nT, nF, n1, n0] at hq) <;> (have hb := hq) <;> (try simp only [dT, dF, eT, eF] at hb) <;> first | (exfalso; omega) | ((try simp only [hq]); clear hq))) <;> (try simp only [go_sem, qa, qb, qc, qd, qe, qf, qg, qh, qi, qj, qk, ql, qm, qn, qo, qp, qq, qr, qs, reduceIte, reduceCtorEq, em])) | refine Fits.of ?_ ?_ | (refine aL ?_ (fun hp => ?_) <;> ((try simp only [rowSet_fI hp, rowSet_fI2 hp]); (try simp only [rowSet_fB hp]))) | refine aE ?_ fun hp => ?_ | refine aC ?_ fun hp => ?_ | refine And.intro ?_ ?_ | clear hK K | clear hX hY X Y | clear hL L)
      all_goals first | omega | trace_state
  · have e1 : c.late s h seq = c.settle seq true := by simp [Chain.late, e]
    rw [e1]
    have e2 := e
    simp only [Chain.lateB, Bool.and_eq_true, decide_eq_true_eq] at e2
    obtain ⟨em, e3, e4⟩ := e2
    simp only [State.gotAt, Chain.sentAt] at e3 e4
    have hs := mine_iff em
    refine CallX.of tok Tryz.func109 rfl rfl Tryz.ntmps109 Tryz.results109 rfl (by decide) (fun cx hnt hk0 => ?_)
    repeat' (first | refine AWp.seq fun K hK => ?_ | refine hK _ ?_; clear hK K | refine hX ?_; clear hX hY X Y | refine hY ?_; clear hX hY X Y | refine AWp.block ?_ | refine hL _ _ ?_ | ((first | refine AWp.region tok (by rw [hnt]; rfl) ?_ | refine AWp.cond' fun X Y hX hY => ?_ | refine AWp.skip ?_ | refine AWp.exit ?_ | refine AWp.ret ?_ | refine Fin.auto [] ?_ | refine runS_v [] (l13Mine_ok c seq (by omega) (by omega)) ?_ ?_ ?_ ?_ ?_ | refine runS_c [_, _, _, _, _, _, _, _] (l13Settle_ok c seq true ok1 hs) rfl ?_ ?_ ?_ | ((first | apply gR | apply gC) <;> intro hq <;> (try simp only [nT, nF, n1, n0] at hq) <;> (have hb := hq) <;> (try simp only [dT, dF, eT, eF] at hb) <;> first | (exfalso; omega) | ((try simp only [hq]); clear hq))) <;> (try simp only [go_sem, qa, qb, qc, qd, qe, qf, qg, qh, qi, qj, qk, ql, qm, qn, qo, qp, qq, qr, qs, reduceIte, reduceCtorEq, em])) | refine Fits.of ?_ ?_ | (refine aL ?_ (fun hp => ?_) <;> ((try simp only [rowSet_fI hp, rowSet_fI2 hp]); (try simp only [rowSet_fB hp]))) | refine aE ?_ fun hp => ?_ | refine aC ?_ fun hp => ?_ | refine And.intro ?_ ?_ | clear hK K | clear hX hY X Y | clear hL L)
    all_goals first | omega | trace_state
end Go.Hw
/- What is proved: how the reference lets a chain get a packet. -/
set_option linter.all false
set_option maxRecDepth 100000
set_option maxHeartbeats 4000000
namespace Go.Hw
open Go.Proofs
open Nat renaming reduceDiv → qa, reduceMod → qb, reduceAdd → qc, reduceMul → qd, reduceSub → qe, reduceLeDiff → qf, reduceBEq → qg, reduceEqDiff → qh, reduceBeqDiff → qi, reduceLT → qj
open Int renaming reduceToNat → qk, reduceAdd → ql, reduceSub → qm, reduceNeg → qn, reduceLT → qo, reduceLE → qp, reduceEq → qq, reduceBEq → qr, reduceBNe → qs
open Go.Hw renaming runG_split → gR, condG_split → gC, takG_split → gT, effG_split → gE
theorem l13Get_ok (c : Chain) (s : State) (p : Packet) (ok1 : c.ok = true) (ok2 : s.ok = true) (ok3 : p.ok = true) : Call Tryz.prog 106 [.g (chainA c 0), s.av, p.av] (chainH c 0) 8 (.tup [.g (chainA (c.get s p) 8), BB (c.getB s p)]) (chainH (c.get s p) 8) 16 := by
  obtain ⟨q1, q2, q3, q4, q5, q6⟩ := chain_ok ok1
  obtain ⟨r1, r2, r3, r4, r5, r6, r7, r8, r9⟩ := state_ok q3
  obtain ⟨t1, t2, t3, t4, t5, t6, t7, t8, t9⟩ := state_ok ok2
  obtain ⟨p1, p2, p3, p4, p5, p6, p7⟩ := packet_ok ok3
  cases e : c.getB s p
  · have e1 : c.get s p = c := by simp [Chain.get, e]
    rw [e1]
    cases eh : s.hasB p
    · refine CallX.of tok Tryz.func106 rfl rfl Tryz.ntmps106 Tryz.results106 rfl (by decide) (fun cx hnt hk0 => ?_)
      repeat' (first | refine AWp.seq fun K hK => ?_ | refine hK _ ?_; clear hK K | refine hX ?_; clear hX hY X Y | refine hY ?_; clear hX hY X Y | refine AWp.block ?_ | refine hL _ _ ?_ | ((first | refine AWp.region tok (by rw [hnt]; rfl) ?_ | refine AWp.cond' fun X Y hX hY => ?_ | refine AWp.skip ?_ | refine AWp.exit ?_ | refine AWp.ret ?_ | refine Fin.auto [] ?_ | refine runS_c [] (l3Has_ok s p (by omega) (by omega)) rfl ?_ ?_ ?_ | ((first | apply gR | apply gC) <;> intro hq <;> (try simp only [nT, nF, n1, n0] at hq) <;> (have hb := hq) <;> (try simp only [dT, dF, eT, eF] at hb) <;> first | (exfalso; omega) | ((try simp only [hq]); clear hq))) <;> (try simp only [go_sem, qa, qb, qc, qd, qe, qf, qg, qh, qi, qj, qk, ql, qm, qn, qo, qp, qq, qr, qs, reduceIte, reduceCtorEq, eh])) | refine Fits.of ?_ ?_ | (refine aL ?_ (fun hp => ?_) <;> ((try simp only [rowSet_fI hp, rowSet_fI2 hp]); (try simp only [rowSet_fB hp]))) | refine aE ?_ fun hp => ?_ | refine aC ?_ fun hp => ?_ | refine And.intro ?_ ?_ | clear hK K | clear hX hY X Y | clear hL L)
      all_goals first | omega | trace_state
    · have e2 : 3 ≤ c.state.way → c.state.got.getD (p.seq - 1).toNat 0 = 0 → p.ver = c.state.ver → ¬ ((c.past.length : Int) + 1 < p.till) := by
        intro h1 h2 h3 h4
        have h2' : c.state.gotAt p.seq = 0 := h2
        simp [Chain.getB, eh, h1, h2', h3, h4] at e
      refine CallX.of tok Tryz.func106 rfl rfl Tryz.ntmps106 Tryz.results106 rfl (by decide) (fun cx hnt hk0 => ?_)
      repeat' (first | refine AWp.seq fun K hK => ?_ | refine hK _ ?_; clear hK K | refine hX ?_; clear hX hY X Y | refine hY ?_; clear hX hY X Y | refine AWp.block ?_ | refine hL _ _ ?_ | ((first | refine AWp.region tok (by rw [hnt]; rfl) ?_ | refine AWp.cond' fun X Y hX hY => ?_ | refine AWp.skip ?_ | refine AWp.exit ?_ | refine AWp.ret ?_ | refine Fin.auto [] ?_ | refine runS_c [] (l3Has_ok s p (by omega) (by omega)) rfl ?_ ?_ ?_ | ((first | apply gR | apply gC) <;> intro hq <;> (try simp only [nT, nF, n1, n0] at hq) <;> (have hb := hq) <;> (try simp only [dT, dF, eT, eF] at hb) <;> first | (exfalso; omega) | ((try simp only [hq]); clear hq))) <;> (try simp only [go_sem, qa, qb, qc, qd, qe, qf, qg, qh, qi, qj, qk, ql, qm, qn, qo, qp, qq, qr, qs, reduceIte, reduceCtorEq, eh])) | refine Fits.of ?_ ?_ | (refine aL ?_ (fun hp => ?_) <;> ((try simp only [rowSet_fI hp, rowSet_fI2 hp]); (try simp only [rowSet_fB hp]))) | refine aE ?_ fun hp => ?_ | refine aC ?_ fun hp => ?_ | refine And.intro ?_ ?_ | clear hK K | clear hX hY X Y | clear hL L)
      all_goals first | omega | trace_state
  · have e1 : c.get s p = c.getD p := by simp [Chain.get, e]
    rw [e1]
    have e2 := e
    simp only [Chain.getB, Bool.and_eq_true, decide_eq_true_eq] at e2
    obtain ⟨e3, eh, e4, e5, e6⟩ := e2
    simp only [State.gotAt] at e4
    have e7 : (if payB c.bank p then c.bank.backD (otherK p.kind) p.dst p.sum else c.bank) = payD c.bank p := rfl
    have e8 : (if payB c.bank p then (1 : Int) else 2) = payN c.bank p := rfl
    refine CallX.of tok Tryz.func106 rfl rfl Tryz.ntmps106 Tryz.results106 rfl (by decide) (fun cx hnt hk0 => ?_)
    repeat' (first | refine AWp.seq fun K hK => ?_ | refine hK _ ?_; clear hK K | refine hX ?_; clear hX hY X Y | refine hY ?_; clear hX hY X Y | refine AWp.block ?_ | refine hL _ _ ?_ | ((first | refine AWp.region tok (by rw [hnt]; rfl) ?_ | refine AWp.cond' fun X Y hX hY => ?_ | refine AWp.skip ?_ | refine AWp.exit ?_ | refine AWp.ret ?_ | refine Fin.auto [] ?_ | refine runS_c [] (l3Has_ok s p (by omega) (by omega)) rfl ?_ ?_ ?_ | refine runS_c [_, _] (l13Pay_ok c.bank p q2 ok3) rfl ?_ ?_ ?_ | ((first | apply gR | apply gC) <;> intro hq <;> (try simp only [nT, nF, n1, n0] at hq) <;> (have hb := hq) <;> (try simp only [dT, dF, eT, eF] at hb) <;> first | (exfalso; omega) | ((try simp only [hq]); clear hq))) <;> (try simp only [go_sem, qa, qb, qc, qd, qe, qf, qg, qh, qi, qj, qk, ql, qm, qn, qo, qp, qq, qr, qs, reduceIte, reduceCtorEq, eh, Chain.getD, e7, e8])) | refine Fits.of ?_ ?_ | (refine aL ?_ (fun hp => ?_) <;> ((try simp only [rowSet_fI hp, rowSet_fI2 hp]); (try simp only [rowSet_fB hp]))) | refine aE ?_ fun hp => ?_ | refine aC ?_ fun hp => ?_ | refine And.intro ?_ ?_ | clear hK K | clear hX hY X Y | clear hL L)
    all_goals first | omega | trace_state
end Go.Hw
/- What is proved: how the reference lets a chain know a height of the other one. -/
set_option linter.all false
set_option maxRecDepth 100000
set_option maxHeartbeats 4000000
namespace Go.Hw
open Go.Proofs
def zC : AObj := .box [.t (.v (.int .i64 0)), .t (.v (.slice none 0 0)), .t (.v (.slice none 0 0)), .t (.v (.int .i64 0)), .t (.v (.int .i64 0)), .t (.v (.int .i64 0)), .t (.v (.int .i64 0)), .t (.v (.slice none 0 0)), .t (.v (.slice none 0 0)), .t (.v (.slice none 0 0)), .t (.v (.slice none 0 0)), .t (.v (.slice none 0 0)), .t (.v (.slice none 0 0))]
attribute [go_sem] zC
theorem filter_le (p : Int → Bool) (l : List Int) : (l.filter p).length ≤ l.length := List.length_filter_le _ _
theorem l21Know_ok (c o : Chain) (h : Int) (ok1 : c.ok = true) (ok2 : o.past.length ≤ 1000) : Call Tryz.prog 98 [.g (chainA c 0), .g (chainA o 8), I h] (chainH c 0) 16 (.o (.g (chainA (c.know o h) 16))) (chainH (c.know o h) 16) 24 := by
  obtain ⟨q1, q2, q3, q4, q5, q6⟩ := chain_ok ok1
  have q7 := knows_len q6
  have qa : ∀ i, (((c.knows.take i).filter fun x => decide (x < h))).length ≤ 90 := fun i => Nat.le_trans (filter_le _ _) (by rw [List.length_take]; omega)
  have qb : ∀ i, (((c.knows.take i).filter fun x => decide (h < x))).length ≤ 90 := fun i => Nat.le_trans (filter_le _ _) (by rw [List.length_take]; omega)
  have qc : ((c.knows.filter fun x => decide (x < h))).length ≤ 90 := Nat.le_trans (filter_le _ _) q7
  cases e : c.knowB o h
  · have e1 : c.know o h = c := by simp [Chain.know, e]
    rw [e1]
    cases e2 : In h 1 o.past.length
    · refine CallX.of tok Tryz.func98 rfl rfl Tryz.ntmps98 Tryz.results98 rfl (by decide) (fun cx hnt hk0 => ?_)
      repeat' (first | (refine AWp.seq fun K hK => ?_) | (refine hK _ ?_; clear hK K) | (refine hX ?_; clear hX hY X Y) | (refine hY ?_; clear hX hY X Y) | (refine AWp.block ?_) | (refine hL _ _ ?_) | ((first | refine AWp.region tok (by rw [hnt]; rfl) ?_ | refine AWp.cond' fun X Y hX hY => ?_ | refine AWp.skip ?_ | refine AWp.exit ?_ | refine AWp.ret ?_ | refine Fin.auto [] ?_ | refine runS_c [] (l6In_ok _ _ _) rfl ?_ ?_ ?_ | ((first | refine runG_split (fun hq => ?_) (fun hq => ?_) | refine condG_split (fun hq => ?_) (fun hq => ?_)) <;> (try simp only [nT, nF, n1, n0] at hq) <;> (have hb := hq) <;> (try simp only [dT, dF, eT, eF] at hb) <;> first | (exfalso; omega) | ((try simp only [hq]); clear hq))) <;> (try simp only [go_sem, Nat.reduceDiv, Nat.reduceMod, Nat.reduceAdd, Nat.reduceMul, Nat.reduceSub, Nat.reduceLeDiff, Nat.reduceBEq, Nat.reduceEqDiff, Nat.reduceBeqDiff, Nat.reduceLT, Int.reduceToNat, Int.reduceAdd, Int.reduceSub, Int.reduceNeg, Int.reduceLT, Int.reduceLE, Int.reduceEq, Int.reduceBEq, Int.reduceBNe, reduceIte, reduceCtorEq, e2])) | (refine Fits.of ?_ ?_) | (refine aL ?_ (fun hp => ?_) <;> ((try simp only [rowSet_fI hp, rowSet_fI2 hp]); (try simp only [rowSet_fB hp]))) | (refine aE ?_ fun hp => ?_) | (refine aC ?_ fun hp => ?_) | (refine And.intro ?_ ?_) | (clear hK K) | (clear hX hY X Y) | (clear hL L))
      all_goals first | omega | trace_state
    · have e3 : c.knows.contains h = true := by
        cases e4 : c.knows.contains h with
        | true => rfl
        | false => rw [Chain.knowB, e2, e4] at e; cases e
      refine CallX.of tok Tryz.func98 rfl rfl Tryz.ntmps98 Tryz.results98 rfl (by decide) (fun cx hnt hk0 => ?_)
      repeat' (first | (refine AWp.seq fun K hK => ?_) | (refine hK _ ?_; clear hK K) | (refine hX ?_; clear hX hY X Y) | (refine hY ?_; clear hX hY X Y) | (refine AWp.block ?_) | (refine hL _ _ ?_) | ((first | refine AWp.region tok (by rw [hnt]; rfl) ?_ | refine AWp.cond' fun X Y hX hY => ?_ | refine AWp.skip ?_ | refine AWp.exit ?_ | refine AWp.ret ?_ | refine Fin.auto [] ?_ | refine runS_c [] (l6In_ok _ _ _) rfl ?_ ?_ ?_ | refine runS_v [] (l21Among_ok c.knows h (by omega)) ?_ ?_ ?_ ?_ ?_ | ((first | refine runG_split (fun hq => ?_) (fun hq => ?_) | refine condG_split (fun hq => ?_) (fun hq => ?_)) <;> (try simp only [nT, nF, n1, n0] at hq) <;> (have hb := hq) <;> (try simp only [dT, dF, eT, eF] at hb) <;> first | (exfalso; omega) | ((try simp only [hq]); clear hq))) <;> (try simp only [go_sem, Nat.reduceDiv, Nat.reduceMod, Nat.reduceAdd, Nat.reduceMul, Nat.reduceSub, Nat.reduceLeDiff, Nat.reduceBEq, Nat.reduceEqDiff, Nat.reduceBeqDiff, Nat.reduceLT, Int.reduceToNat, Int.reduceAdd, Int.reduceSub, Int.reduceNeg, Int.reduceLT, Int.reduceLE, Int.reduceEq, Int.reduceBEq, Int.reduceBNe, reduceIte, reduceCtorEq, e2, e3])) | (refine Fits.of ?_ ?_) | (refine aL ?_ (fun hp => ?_) <;> ((try simp only [rowSet_fI hp, rowSet_fI2 hp]); (try simp only [rowSet_fB hp]))) | (refine aE ?_ fun hp => ?_) | (refine aC ?_ fun hp => ?_) | (refine And.intro ?_ ?_) | (clear hK K) | (clear hX hY X Y) | (clear hL L))
      all_goals first | omega | trace_state
  · have e1 : c.know o h = { c with knows := c.knows.filter (fun x => decide (x < h)) ++ h :: c.knows.filter (fun x => decide (h < x)) } := by simp [Chain.know, e]
    rw [e1]
    have e2 := e
    simp only [Chain.knowB, Bool.and_eq_true, Bool.not_eq_true'] at e2
    obtain ⟨e3, e4⟩ := e2
    refine CallX.of tok Tryz.func98 rfl rfl Tryz.ntmps98 Tryz.results98 rfl (by decide) (fun cx hnt hk0 => ?_)
    repeat' (first | (refine AWp.seq fun K hK => ?_) | (refine hK _ ?_; clear hK K) | (refine hX ?_; clear hX hY X Y) | (refine hY ?_; clear hX hY X Y) | (refine AWp.block ?_) | (refine hL _ _ ?_) | ((first | refine AWp.region tok (by rw [hnt]; rfl) ?_ | refine AWp.cond' fun X Y hX hY => ?_ | refine AWp.skip ?_ | refine AWp.exit ?_ | refine AWp.ret ?_ | refine Fin.auto [] ?_ | refine runS_c [] (l6In_ok _ _ _) rfl ?_ ?_ ?_ | refine runS_v [] (l21Among_ok c.knows h (by omega)) ?_ ?_ ?_ ?_ ?_ | ((first | refine runG_split (fun hq => ?_) (fun hq => ?_) | refine condG_split (fun hq => ?_) (fun hq => ?_)) <;> (try simp only [nT, nF, n1, n0] at hq) <;> (have hb := hq) <;> (try simp only [dT, dF, eT, eF] at hb) <;> first | (exfalso; omega) | ((try simp only [hq]); clear hq))) <;> (try simp only [go_sem, Nat.reduceDiv, Nat.reduceMod, Nat.reduceAdd, Nat.reduceMul, Nat.reduceSub, Nat.reduceLeDiff, Nat.reduceBEq, Nat.reduceEqDiff, Nat.reduceBeqDiff, Nat.reduceLT, Int.reduceToNat, Int.reduceAdd, Int.reduceSub, Int.reduceNeg, Int.reduceLT, Int.reduceLE, Int.reduceEq, Int.reduceBEq, Int.reduceBNe, reduceIte, reduceCtorEq, e3, e4])) | (refine Fits.of ?_ ?_) | (refine aL ?_ (fun hp => ?_) <;> ((try simp only [rowSet_fI hp, rowSet_fI2 hp]); (try simp only [rowSet_fB hp]))) | (refine aE ?_ fun hp => ?_) | (refine aC ?_ fun hp => ?_) | (refine And.intro ?_ ?_) | (clear hK K) | (clear hX hY X Y) | (clear hL L))
    refine AWp.loop (fun i : Nat => ⟨[(2, .o (I h)), (3, .o (.c (.ptr 16 0 0 0))), (6, .o (.c (.ptr 18 0 0 0))), (7, .o (.c (.sl 19 1 0 ((c.knows.take i).filter fun x => decide (x < h)).length))), (8, .o (I i))],
      (19, rI ((c.knows.take i).filter fun x => decide (x < h))) :: (16, .box (chainA c 0)) :: (18, zC) :: chainH c 0, 20⟩) (fun i => i ≤ c.knows.length) (fun i => c.knows.length - i) 0 (Nat.zero_le _) ?_ ?_
    · refine SLe.auto hk0 [] ?_; simp only [go_sem, Nat.reduceDiv, Nat.reduceMod, Nat.reduceAdd, Nat.reduceMul, Nat.reduceSub, Nat.reduceLeDiff, Nat.reduceBEq, Nat.reduceEqDiff, Nat.reduceBeqDiff, Nat.reduceLT, Int.reduceToNat, Int.reduceAdd, Int.reduceSub, Int.reduceNeg, Int.reduceLT, Int.reduceLE, Int.reduceEq, Int.reduceBEq, Int.reduceBNe, reduceIte, reduceCtorEq, List.take_zero, List.filter_nil]
      all_goals simp
    intro i hi
    have qi := qa i
    repeat' (first | (refine AWp.seq fun K hK => ?_) | (refine hK _ ?_; clear hK K) | (refine hX ?_; clear hX hY X Y) | (refine hY ?_; clear hX hY X Y) | (refine AWp.block ?_) | (refine hL _ _ ?_) | ((first | refine AWp.region tok (by rw [hnt]; rfl) ?_ | refine AWp.cond' fun X Y hX hY => ?_ | refine AWp.skip ?_ | refine AWp.exit ?_ | refine AWp.ret ?_ | refine Fin.auto [] ?_ | refine SLe.auto hk0 [] ?_ | ((first | refine runG_split (fun hq => ?_) (fun hq => ?_) | refine condG_split (fun hq => ?_) (fun hq => ?_)) <;> (try simp only [nT, nF, n1, n0] at hq) <;> (have hb := hq) <;> (try simp only [dT, dF, eT, eF] at hb) <;> first | (exfalso; omega) | ((try simp only [hq]); clear hq))) <;> (try simp only [go_sem, Nat.reduceDiv, Nat.reduceMod, Nat.reduceAdd, Nat.reduceMul, Nat.reduceSub, Nat.reduceLeDiff, Nat.reduceBEq, Nat.reduceEqDiff, Nat.reduceBeqDiff, Nat.reduceLT, Int.reduceToNat, Int.reduceAdd, Int.reduceSub, Int.reduceNeg, Int.reduceLT, Int.reduceLE, Int.reduceEq, Int.reduceBEq, Int.reduceBNe, reduceIte, reduceCtorEq])) | (refine ⟨i + 1, ?_, ?_, ?_⟩) | (refine Fits.of ?_ ?_) | (refine aL ?_ (fun hp => ?_) <;> ((try simp only [rowSet_fI hp, rowSet_fI2 hp]); (try simp only [rowSet_fB hp]))) | (refine aE ?_ fun hp => ?_) | (refine aC ?_ fun hp => ?_) | (refine And.intro ?_ ?_) | (clear hK K) | (clear hX hY X Y) | (clear hL L))
    all_goals try (first | omega | (simp only [decide_eq_true_eq, decide_eq_false_iff_not, decide_eq_decide]; omega))
    all_goals try (rw [filter_take _ _ _ (by omega), if_pos (by simpa using hb)]; simp [rle_fI]; done)
    all_goals try (rw [filter_take _ _ _ (by omega), if_neg (by simpa using hb)]; simp [rle_fI]; done)
    have ei : i = c.knows.length := by omega
    subst ei
    rw [List.take_length]
    refine AWp.loop (fun i : Nat => ⟨[(2, .o (I h)), (3, .o (.c (.ptr 16 0 0 0))), (6, .o (.c (.ptr 18 0 0 0))), (7, .o (.c (.sl 19 1 0 (((c.knows.filter fun x => decide (x < h)) ++ h :: (c.knows.take i).filter fun x => decide (h < x))).length))), (9, .o (I i))],
      (19, rI ((c.knows.filter fun x => decide (x < h)) ++ h :: (c.knows.take i).filter fun x => decide (h < x))) :: (16, .box (chainA c 0)) :: (18, zC) :: chainH c 0, 20⟩) (fun i => i ≤ c.knows.length) (fun i => c.knows.length - i) 0 (Nat.zero_le _) ?_ ?_
    · refine SLe.auto hk0 [] ?_; simp only [go_sem, Nat.reduceDiv, Nat.reduceMod, Nat.reduceAdd, Nat.reduceMul, Nat.reduceSub, Nat.reduceLeDiff, Nat.reduceBEq, Nat.reduceEqDiff, Nat.reduceBeqDiff, Nat.reduceLT, Int.reduceToNat, Int.reduceAdd, Int.reduceSub, Int.reduceNeg, Int.reduceLT, Int.reduceLE, Int.reduceEq, Int.reduceBEq, Int.reduceBNe, reduceIte, reduceCtorEq, List.take_zero, List.filter_nil]
      all_goals simp
    intro i hi
    have qi := qb i
    repeat' (first | (refine AWp.seq fun K hK => ?_) | (refine hK _ ?_; clear hK K) | (refine hX ?_; clear hX hY X Y) | (refine hY ?_; clear hX hY X Y) | (refine AWp.block ?_) | (refine hL _ _ ?_) | ((first | refine AWp.region tok (by rw [hnt]; rfl) ?_ | refine AWp.cond' fun X Y hX hY => ?_ | refine AWp.skip ?_ | refine AWp.exit ?_ | refine AWp.ret ?_ | refine Fin.auto [] ?_ | refine SLe.auto hk0 [] ?_ | ((first | refine runG_split (fun hq => ?_) (fun hq => ?_) | refine condG_split (fun hq => ?_) (fun hq => ?_)) <;> (try simp only [nT, nF, n1, n0] at hq) <;> (have hb := hq) <;> (try simp only [dT, dF, eT, eF] at hb) <;> first | (exfalso; omega) | ((try simp only [hq]); clear hq))) <;> (try simp only [go_sem, Nat.reduceDiv, Nat.reduceMod, Nat.reduceAdd, Nat.reduceMul, Nat.reduceSub, Nat.reduceLeDiff, Nat.reduceBEq, Nat.reduceEqDiff, Nat.reduceBeqDiff, Nat.reduceLT, Int.reduceToNat, Int.reduceAdd, Int.reduceSub, Int.reduceNeg, Int.reduceLT, Int.reduceLE, Int.reduceEq, Int.reduceBEq, Int.reduceBNe, reduceIte, reduceCtorEq])) | (refine ⟨i + 1, ?_, ?_, ?_⟩) | (refine Fits.of ?_ ?_) | (refine aL ?_ (fun hp => ?_) <;> ((try simp only [rowSet_fI hp, rowSet_fI2 hp]); (try simp only [rowSet_fB hp]))) | (refine aE ?_ fun hp => ?_) | (refine aC ?_ fun hp => ?_) | (refine And.intro ?_ ?_) | (clear hK K) | (clear hX hY X Y) | (clear hL L))
    all_goals try (first | omega | (simp only [decide_eq_true_eq, decide_eq_false_iff_not, decide_eq_decide]; omega))
    all_goals try (rw [filter_take _ _ _ (by omega), if_pos (by simpa using hb)]; simp [rle_fI]; done)
    all_goals try (rw [filter_take _ _ _ (by omega), if_neg (by simpa using hb)]; simp [rle_fI]; done)
    all_goals (have ei : i = c.knows.length := by omega)
    all_goals (subst ei; simp only [List.take_length])
    all_goals first | omega | (simp [rle_fI]; done)
end Go.Hw
/- What is proved: a chain anew, in the reference. -/
set_option linter.all false
set_option maxRecDepth 100000
set_option maxHeartbeats 4000000
namespace Go.Hw
open Go.Proofs
open Nat renaming reduceDiv → qa, reduceMod → qb, reduceAdd → qc, reduceMul → qd, reduceSub → qe, reduceLeDiff → qf, reduceBEq → qg, reduceEqDiff → qh, reduceBeqDiff → qi, reduceLT → qj
open Int renaming reduceToNat → qk, reduceAdd → ql, reduceSub → qm, reduceNeg → qn, reduceLT → qo, reduceLE → qp, reduceEq → qq, reduceBEq → qr, reduceBNe → qs
open Go.Hw renaming runG_split → gR, condG_split → gC, takG_split → gT, effG_split → gE
def pl_rle_snoc20 : Plan := (.tak 0 (.tak 1 (.tak 2 (.tak 3 (.tak 5 (.tak 6 (.tak 8 (.tak 10 (.tak 11 (.all (.cons 4 (.all (.cons 7 (.all (.cons 9 (.all (.cons 12 (.all (.cons 13 (.all (.cons 14 .done .nil)) .nil)) .nil)) .nil)) (.cons 9 (.all (.cons 7 (.all (.cons 12 (.all (.cons 13 (.all (.cons 14 .done .nil)) .nil)) .nil)) .nil)) .nil))) (.cons 9 (.all (.cons 4 (.all (.cons 7 (.all (.cons 12 (.all (.cons 13 (.all (.cons 14 .done .nil)) .nil)) .nil)) .nil)) .nil)) .nil))))))))))))
attribute [go_sem] pl_rle_snoc20
theorem rle_snoc2 {H : Heap} {fz : Nat → Prop} {τ : List (Nat × Nat)} {N n : Nat} {l : List State} {s : State} {c0 c1 c2 c3 c4 c5 c6 : Cell} (hn : n = l.length)
    (h : cle H fz τ N c0 (.t (s.tv 0)) ∧ cle H fz τ N c1 (.t (s.tv 1)) ∧ cle H fz τ N c2 (.t (s.tv 2)) ∧ cle H fz τ N c3 (.t (s.tv 3)) ∧ cle H fz τ N c4 (.t (s.tv 4)) ∧ cle H fz τ N c5 (.t (s.tv 5)) ∧ cle H fz τ N c6 (.t (s.tv 6))) :
    rle H fz τ N 7 (n + 1) (app n (fS l) (rowOf 7 [c0, c1, c2, c3, c4, c5, c6])) (fS (l ++ [s])) := by subst hn; exact rle_snoc h
theorem take_snoc (l : List State) (i : Nat) (h : i < l.length) : l.take (i + 1) = l.take i ++ [l.getD i default] := by
  rw [List.take_succ]; simp [List.getD, h]
theorem l12Copy_ok (c : Chain) (ok1 : c.ok = true) : Call Tryz.prog 107 [c.av] [] 0 (.o (.g (chainA c 0))) (chainH c 0) 8 := by
  obtain ⟨q1, q2, q3, q4, q5, q6⟩ := chain_ok ok1
  have q7 := knows_len q6
  obtain ⟨r1, r2, r3, r4, r5, r6, r7, r8, r9⟩ := state_ok q3
  obtain ⟨b1, b2, b3, b4, b5⟩ := bank_ok q2
  have b6 := parts_len b1
  have b7 := parts_len b2
  have qs : ∀ i, (c.past.getD i default).sent.length ≤ 1000 ∧ (c.past.getD i default).live.length ≤ 1000 ∧ (c.past.getD i default).back.length ≤ 1000 ∧ (c.past.getD i default).got.length ≤ 1000 := by
    intro i
    by_cases hi : i < c.past.length
    · obtain ⟨r1, r2, r3, r4, r5, r6, r7, r8, r9⟩ := state_ok (q5 i hi)
      omega
    · have : c.past.getD i default = default := by simp [List.getD, List.getElem?_eq_none (Nat.le_of_not_lt hi)]
      rw [this]; exact ⟨Nat.zero_le _, Nat.zero_le _, Nat.zero_le _, Nat.zero_le _⟩
  refine CallX.of tok Tryz.func107 rfl rfl Tryz.ntmps107 Tryz.results107 rfl (by decide) (fun cx hnt hk0 => ?_)
  
  repeat' (first | refine AWp.seq fun K hK => ?_ | refine hK _ ?_; clear hK K | refine hX ?_; clear hX hY X Y | refine hY ?_; clear hX hY X Y | refine AWp.block ?_ | refine hL _ _ ?_ | ((first | refine AWp.region tok (by rw [hnt]; rfl) ?_ | refine AWp.cond' fun X Y hX hY => ?_ | refine AWp.skip ?_ | refine AWp.exit ?_ | refine AWp.ret ?_ | refine Fin.auto [] ?_ | refine AWp.draw (id := 6) tok mixed pl_rle_snoc20 [0] [1, 2, 3] (by kernel_rfl) (by kernel_rfl) (by rw [hnt]; rfl) ?_ | ((first | apply gR | apply gC | apply gT | apply gE) <;> intro hq <;> (try simp only [nT, nF, n1, n0] at hq) <;> (have hb := hq) <;> (try simp only [dT, dF, eT, eF] at hb) <;> first | (exfalso; omega) | ((try simp only [hq]); clear hq))) <;> (try simp only [go_sem, qa, qb, qc, qd, qe, qf, qg, qh, qi, qj, qk, ql, qm, qn, qo, qp, qq, qr, qs, reduceIte, reduceCtorEq])) | refine Fits.of ?_ ?_ | (refine aL ?_ (fun hp => ?_) <;> ((try simp only [rowSet_fI hp, rowSet_fI2 hp]); (try simp only [rowSet_fB hp]))) | refine aE ?_ fun hp => ?_ | refine aC ?_ fun hp => ?_ | refine And.intro ?_ ?_ | clear hK K | clear hX hY X Y | clear hL L)
  refine AWp.loop (fun i : Nat => ⟨[(1, .o (.c (.ptr 0 0 0 0))), (2, .o (.c (.ptr 1 0 0 0))), (3, .o (.c (.sl 2 7 0 i))), (4, .o (I i))], [(2, .row 7 i (fS (c.past.take i))), (0, c.box), (1, .box [.t (.v (.int .i64 0)), .t (.v (.slice none 0 0)), .t (.v (.slice none 0 0)), .t (.v (.int .i64 0)), .t (.v (.int .i64 0)), .t (.v (.int .i64 0)), .t (.v (.int .i64 0)), .t (.v (.slice none 0 0)), .t (.v (.slice none 0 0)), .t (.v (.slice none 0 0)), .t (.v (.slice none 0 0)), .t (.v (.slice none 0 0)), .t (.v (.slice none 0 0))])], 3⟩) (fun i => i ≤ c.past.length) (fun i => c.past.length - i) 0 (Nat.zero_le _) ?_ ?_
  · refine SLe.auto hk0 [] ?_; simp only [go_sem, qa, qb, qc, qd, qe, qf, qg, qh, qi, qj, qk, ql, qm, qn, qo, qp, qq, qr, qs, reduceIte, reduceCtorEq]
    all_goals simp
  intro i hi
  obtain ⟨s1, s2, s3, s4⟩ := qs i
  
  repeat' (first | refine AWp.seq fun K hK => ?_ | refine hK _ ?_; clear hK K | refine hX ?_; clear hX hY X Y | refine hY ?_; clear hX hY X Y | refine AWp.block ?_ | refine hL _ _ ?_ | ((first | refine AWp.region tok (by rw [hnt]; rfl) ?_ | refine AWp.cond' fun X Y hX hY => ?_ | refine AWp.skip ?_ | refine AWp.exit ?_ | refine AWp.ret ?_ | refine Fin.auto [] ?_ | refine runS_c [] (l3Copy_ok (c.past.getD i default) s1 s2 s3 s4) rfl ?_ ?_ ?_ | refine runS_c [] (l1Copy_ok c.bank (by omega) (by omega)) rfl ?_ ?_ ?_ | refine runS_c [] (l3Copy_ok c.state (by omega) (by omega) (by omega) (by omega)) rfl ?_ ?_ ?_ | refine AWp.draw (id := 6) tok mixed pl_rle_snoc20 [0] [1, 2, 3] (by kernel_rfl) (by kernel_rfl) (by rw [hnt]; rfl) ?_ | refine effS_c [] (l3Copy_ok (c.past.getD i default) s1 s2 s3 s4) rfl ?_ ?_ ?_ | refine effS_c [] (l1Copy_ok c.bank (by omega) (by omega)) rfl ?_ ?_ ?_ | refine effS_c [] (l3Copy_ok c.state (by omega) (by omega) (by omega) (by omega)) rfl ?_ ?_ ?_ | refine SLe.auto hk0 [3, 4, 5, 6] ?_ | ((first | apply gR | apply gC | apply gT | apply gE) <;> intro hq <;> (try simp only [nT, nF, n1, n0] at hq) <;> (have hb := hq) <;> (try simp only [dT, dF, eT, eF] at hb) <;> first | (exfalso; omega) | ((try simp only [hq]); clear hq))) <;> (try simp only [go_sem, qa, qb, qc, qd, qe, qf, qg, qh, qi, qj, qk, ql, qm, qn, qo, qp, qq, qr, qs, reduceIte, reduceCtorEq])) | refine ⟨i + 1, ?_, ?_, ?_⟩ | refine Fits.of ?_ ?_ | (refine aL ?_ (fun hp => ?_) <;> ((try simp only [rowSet_fI hp, rowSet_fI2 hp]); (try simp only [rowSet_fB hp]))) | refine aE ?_ fun hp => ?_ | refine aC ?_ fun hp => ?_ | refine And.intro ?_ ?_ | clear hK K | clear hX hY X Y | clear hL L)
  all_goals try (first | omega | (simp only [decide_eq_true_eq, decide_eq_false_iff_not, decide_eq_decide]; omega))
  all_goals try (rw [take_snoc c.past i (by omega)]; refine rle_snoc2 (by simp; omega) ?_; simp only [go_sem, qa, qb, qc, qd, qe, qf, qg, qh, qi, qj, qk, ql, qm, qn, qo, qp, qq, qr, qs, reduceIte, reduceCtorEq]; done)
  all_goals try (have ei : i = c.past.length := by omega
                 subst ei; simp [rle_fS]; done)
  all_goals skip
end Go.Hw
