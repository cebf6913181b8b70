/- What is proved here: parts W2, W3, W4, W18 of the walk of the law and of its plain side; no condition but those that each theorem states. -/
import Derived.Test.YtcbceacjhmblnaaGreatB2
import Derived.Test.YtcbceacjhmblnaaGreatB3
import Derived.Test.YtcbceacjhmblnaaGreatB1
/- What is proved: what needs that the other chain was in a state, in the reference. -/
set_option linter.all false
set_option maxRecDepth 100000
set_option maxHeartbeats 4000000
namespace Go.Hw
open Go.Proofs
open Nat renaming reduceDiv → qa, reduceMod → qb, reduceAdd → qc, reduceMul → qd, reduceSub → qe, reduceLeDiff → qf, reduceBEq → qg, reduceEqDiff → qh, reduceBeqDiff → qi, reduceLT → qj
open Int renaming reduceToNat → qk, reduceAdd → ql, reduceSub → qm, reduceNeg → qn, reduceLT → qo, reduceLE → qp, reduceEq → qq, reduceBEq → qr, reduceBNe → qs
open Go.Hw renaming runG_split → gR, condG_split → gC, takG_split → gT, effG_split → gE
theorem l21Relay_ok (c o : Chain) (ev : Event) (ok1 : c.ok = true) (ok2 : o.ok = true) : Call Tryz.prog 102 [.g (chainA c 0), .g (chainA o 8), ev.av] (chainH c 0 ++ chainH o 8) 16 (.o (.g (chainA (c.relay o ev) 16))) (chainH (c.relay o ev) 16 ++ chainH o 8) 24 := by
  obtain ⟨q1, q2, q3, q4, q5, q6⟩ := chain_ok ok1
  obtain ⟨u1, u2, u3, u4, u5, u6⟩ := chain_ok ok2
  have q7 := knows_len q6
  cases e : c.relayB o ev.height
  · have e1 : c.relay o ev = c := by simp [Chain.relay, e]
    rw [e1]
    cases e2 : c.knows.contains ev.height
    · refine CallX.of tok Tryz.func102 rfl rfl Tryz.ntmps102 Tryz.results102 rfl (by decide) (fun cx hnt hk0 => ?_)
      repeat' (first | refine AWp.seq fun K hK => ?_ | refine hK _ ?_; clear hK K | refine hX ?_; clear hX hY X Y | refine hY ?_; clear hX hY X Y | refine AWp.block ?_ | refine hL _ _ ?_ | ((first | refine AWp.region tok (by rw [hnt]; rfl) ?_ | refine AWp.cond' fun X Y hX hY => ?_ | refine AWp.skip ?_ | refine AWp.exit ?_ | refine AWp.ret ?_ | refine Fin.auto [] ?_ | refine runS_v [] (l21Among_ok c.knows ev.height (by omega)) ?_ ?_ ?_ ?_ ?_ | ((first | apply gR | apply gC) <;> intro hq <;> (try simp only [nT, nF, n1, n0] at hq) <;> (have hb := hq) <;> (try simp only [dT, dF, eT, eF] at hb) <;> first | (exfalso; omega) | ((try simp only [hq]); clear hq))) <;> (try simp only [go_sem, qa, qb, qc, qd, qe, qf, qg, qh, qi, qj, qk, ql, qm, qn, qo, qp, qq, qr, qs, reduceIte, reduceCtorEq, e2])) | refine Fits.of ?_ ?_ | (refine aL ?_ (fun hp => ?_) <;> ((try simp only [rowSet_fI hp, rowSet_fI2 hp]); (try simp only [rowSet_fB hp]))) | refine aE ?_ fun hp => ?_ | refine aC ?_ fun hp => ?_ | refine And.intro ?_ ?_ | clear hK K | clear hX hY X Y | clear hL L)
      all_goals first | omega | trace_state
    · have e3 : ¬ ev.height ≤ o.past.length := by
        intro h
        have h' : decide (ev.height ≤ (o.past.length : Int)) = true := by simpa using h
        rw [Chain.relayB, e2, h'] at e; cases e
      refine CallX.of tok Tryz.func102 rfl rfl Tryz.ntmps102 Tryz.results102 rfl (by decide) (fun cx hnt hk0 => ?_)
      repeat' (first | refine AWp.seq fun K hK => ?_ | refine hK _ ?_; clear hK K | refine hX ?_; clear hX hY X Y | refine hY ?_; clear hX hY X Y | refine AWp.block ?_ | refine hL _ _ ?_ | ((first | refine AWp.region tok (by rw [hnt]; rfl) ?_ | refine AWp.cond' fun X Y hX hY => ?_ | refine AWp.skip ?_ | refine AWp.exit ?_ | refine AWp.ret ?_ | refine Fin.auto [] ?_ | refine runS_v [] (l21Among_ok c.knows ev.height (by omega)) ?_ ?_ ?_ ?_ ?_ | ((first | apply gR | apply gC) <;> intro hq <;> (try simp only [nT, nF, n1, n0] at hq) <;> (have hb := hq) <;> (try simp only [dT, dF, eT, eF] at hb) <;> first | (exfalso; omega) | ((try simp only [hq]); clear hq))) <;> (try simp only [go_sem, qa, qb, qc, qd, qe, qf, qg, qh, qi, qj, qk, ql, qm, qn, qo, qp, qq, qr, qs, reduceIte, reduceCtorEq, e2])) | refine Fits.of ?_ ?_ | (refine aL ?_ (fun hp => ?_) <;> ((try simp only [rowSet_fI hp, rowSet_fI2 hp]); (try simp only [rowSet_fB hp]))) | refine aE ?_ fun hp => ?_ | refine aC ?_ fun hp => ?_ | refine And.intro ?_ ?_ | clear hK K | clear hX hY X Y | clear hL L)
      all_goals first | omega | trace_state
  · have e2 := e
    simp only [Chain.relayB, Bool.and_eq_true, decide_eq_true_eq] at e2
    obtain ⟨e3, e4⟩ := e2
    have e5 : 1 ≤ ev.height := by
      have hm : ev.height ∈ c.knows := by simpa using e3
      obtain ⟨i, hi, e6⟩ := List.getElem_of_mem hm
      have := q6 i hi
      simp only [knowOk, Bool.and_eq_true, In_iff] at this
      have e7 : c.knows.getD i 0 = ev.height := by simp [List.getD, hi, e6]
      omega
    have e6 : (o.past.getD (ev.height - 1).toNat default).ok = true := u5 _ (by omega)
    have e7 : c.relay o ev = (if ev.kind = 4 then (if ev.packet.ok then c.get (o.at ev.height) ev.packet else c)
      else if ev.kind = 5 then c.tell (o.at ev.height) ev.n
      else if ev.kind = 6 then c.late (o.at ev.height) ev.height ev.n
      else if ev.kind = 7 then c.step (o.at ev.height) ev.n
      else c) := by simp only [Chain.relay, e, if_true]
    rw [e7]
    clear e7
    simp only [Chain.at]
    generalize es : o.past.getD (ev.height - 1).toNat default = s at e6 ⊢
    by_cases k4 : ev.kind = 4
    · rw [if_pos k4]
      cases ep : ev.packet.ok
      · refine CallX.of tok Tryz.func102 rfl rfl Tryz.ntmps102 Tryz.results102 rfl (by decide) (fun cx hnt hk0 => ?_)
        repeat' (first | refine AWp.seq fun K hK => ?_ | refine hK _ ?_; clear hK K | refine hX ?_; clear hX hY X Y | refine hY ?_; clear hX hY X Y | refine AWp.block ?_ | refine hL _ _ ?_ | ((first | refine AWp.region tok (by rw [hnt]; rfl) ?_ | refine AWp.cond' fun X Y hX hY => ?_ | refine AWp.skip ?_ | refine AWp.exit ?_ | refine AWp.ret ?_ | refine Fin.auto [] ?_ | refine runS_v [] (l21Among_ok c.knows ev.height (by omega)) ?_ ?_ ?_ ?_ ?_ | refine runS_c [] (PacketOk_ok ev.packet) rfl ?_ ?_ ?_ | ((first | apply gR | apply gC) <;> intro hq <;> (try simp only [nT, nF, n1, n0] at hq) <;> (have hb := hq) <;> (try simp only [dT, dF, eT, eF] at hb) <;> first | (exfalso; omega) | ((try simp only [hq]); clear hq))) <;> (try simp only [go_sem, qa, qb, qc, qd, qe, qf, qg, qh, qi, qj, qk, ql, qm, qn, qo, qp, qq, qr, qs, reduceIte, reduceCtorEq, e3, ep, es, Bool.false_eq_true])) | refine Fits.of ?_ ?_ | (refine aL ?_ (fun hp => ?_) <;> ((try simp only [rowSet_fI hp, rowSet_fI2 hp]); (try simp only [rowSet_fB hp]))) | refine aE ?_ fun hp => ?_ | refine aC ?_ fun hp => ?_ | refine And.intro ?_ ?_ | clear hK K | clear hX hY X Y | clear hL L)
        all_goals first | omega | trace_state
      · refine CallX.of tok Tryz.func102 rfl rfl Tryz.ntmps102 Tryz.results102 rfl (by decide) (fun cx hnt hk0 => ?_)
        repeat' (first | refine AWp.seq fun K hK => ?_ | refine hK _ ?_; clear hK K | refine hX ?_; clear hX hY X Y | refine hY ?_; clear hX hY X Y | refine AWp.block ?_ | refine hL _ _ ?_ | ((first | refine AWp.region tok (by rw [hnt]; rfl) ?_ | refine AWp.cond' fun X Y hX hY => ?_ | refine AWp.skip ?_ | refine AWp.exit ?_ | refine AWp.ret ?_ | refine Fin.auto [] ?_ | refine runS_v [] (l21Among_ok c.knows ev.height (by omega)) ?_ ?_ ?_ ?_ ?_ | refine runS_c [] (PacketOk_ok ev.packet) rfl ?_ ?_ ?_ | refine runS_c [_, _, _, _, _, _, _, _] (l13Get_ok c s ev.packet ok1 e6 ep) rfl ?_ ?_ ?_ | ((first | apply gR | apply gC) <;> intro hq <;> (try simp only [nT, nF, n1, n0] at hq) <;> (have hb := hq) <;> (try simp only [dT, dF, eT, eF] at hb) <;> first | (exfalso; omega) | ((try simp only [hq]); clear hq))) <;> (try simp only [go_sem, qa, qb, qc, qd, qe, qf, qg, qh, qi, qj, qk, ql, qm, qn, qo, qp, qq, qr, qs, reduceIte, reduceCtorEq, e3, ep, es])) | refine Fits.of ?_ ?_ | (refine aL ?_ (fun hp => ?_) <;> ((try simp only [rowSet_fI hp, rowSet_fI2 hp]); (try simp only [rowSet_fB hp]))) | refine aE ?_ fun hp => ?_ | refine aC ?_ fun hp => ?_ | refine And.intro ?_ ?_ | clear hK K | clear hX hY X Y | clear hL L)
        all_goals first | omega | trace_state
    · rw [if_neg k4]
      by_cases k5 : ev.kind = 5
      · rw [if_pos k5]
        refine CallX.of tok Tryz.func102 rfl rfl Tryz.ntmps102 Tryz.results102 rfl (by decide) (fun cx hnt hk0 => ?_)
        repeat' (first | refine AWp.seq fun K hK => ?_ | refine hK _ ?_; clear hK K | refine hX ?_; clear hX hY X Y | refine hY ?_; clear hX hY X Y | refine AWp.block ?_ | refine hL _ _ ?_ | ((first | refine AWp.region tok (by rw [hnt]; rfl) ?_ | refine AWp.cond' fun X Y hX hY => ?_ | refine AWp.skip ?_ | refine AWp.exit ?_ | refine AWp.ret ?_ | refine Fin.auto [] ?_ | refine runS_v [] (l21Among_ok c.knows ev.height (by omega)) ?_ ?_ ?_ ?_ ?_ | refine runS_c [_, _, _, _, _, _, _, _] (l13Tell_ok c s ev.n ok1 e6) rfl ?_ ?_ ?_ | ((first | apply gR | apply gC) <;> intro hq <;> (try simp only [nT, nF, n1, n0] at hq) <;> (have hb := hq) <;> (try simp only [dT, dF, eT, eF] at hb) <;> first | (exfalso; omega) | ((try simp only [hq]); clear hq))) <;> (try simp only [go_sem, qa, qb, qc, qd, qe, qf, qg, qh, qi, qj, qk, ql, qm, qn, qo, qp, qq, qr, qs, reduceIte, reduceCtorEq, e3, es])) | refine Fits.of ?_ ?_ | (refine aL ?_ (fun hp => ?_) <;> ((try simp only [rowSet_fI hp, rowSet_fI2 hp]); (try simp only [rowSet_fB hp]))) | refine aE ?_ fun hp => ?_ | refine aC ?_ fun hp => ?_ | refine And.intro ?_ ?_ | clear hK K | clear hX hY X Y | clear hL L)
        all_goals first | omega | trace_state
      · rw [if_neg k5]
        by_cases k6 : ev.kind = 6
        · rw [if_pos k6]
          refine CallX.of tok Tryz.func102 rfl rfl Tryz.ntmps102 Tryz.results102 rfl (by decide) (fun cx hnt hk0 => ?_)
          repeat' (first | refine AWp.seq fun K hK => ?_ | refine hK _ ?_; clear hK K | refine hX ?_; clear hX hY X Y | refine hY ?_; clear hX hY X Y | refine AWp.block ?_ | refine hL _ _ ?_ | ((first | refine AWp.region tok (by rw [hnt]; rfl) ?_ | refine AWp.cond' fun X Y hX hY => ?_ | refine AWp.skip ?_ | refine AWp.exit ?_ | refine AWp.ret ?_ | refine Fin.auto [] ?_ | refine runS_v [] (l21Among_ok c.knows ev.height (by omega)) ?_ ?_ ?_ ?_ ?_ | refine runS_c [_, _, _, _, _, _, _, _] (l13Late_ok c s ev.height ev.n ok1 e6) rfl ?_ ?_ ?_ | ((first | apply gR | apply gC) <;> intro hq <;> (try simp only [nT, nF, n1, n0] at hq) <;> (have hb := hq) <;> (try simp only [dT, dF, eT, eF] at hb) <;> first | (exfalso; omega) | ((try simp only [hq]); clear hq))) <;> (try simp only [go_sem, qa, qb, qc, qd, qe, qf, qg, qh, qi, qj, qk, ql, qm, qn, qo, qp, qq, qr, qs, reduceIte, reduceCtorEq, e3, es])) | refine Fits.of ?_ ?_ | (refine aL ?_ (fun hp => ?_) <;> ((try simp only [rowSet_fI hp, rowSet_fI2 hp]); (try simp only [rowSet_fB hp]))) | refine aE ?_ fun hp => ?_ | refine aC ?_ fun hp => ?_ | refine And.intro ?_ ?_ | clear hK K | clear hX hY X Y | clear hL L)
          all_goals first | omega | trace_state
        · rw [if_neg k6]
          by_cases k7 : ev.kind = 7
          · rw [if_pos k7]
            refine CallX.of tok Tryz.func102 rfl rfl Tryz.ntmps102 Tryz.results102 rfl (by decide) (fun cx hnt hk0 => ?_)
            repeat' (first | refine AWp.seq fun K hK => ?_ | refine hK _ ?_; clear hK K | refine hX ?_; clear hX hY X Y | refine hY ?_; clear hX hY X Y | refine AWp.block ?_ | refine hL _ _ ?_ | ((first | refine AWp.region tok (by rw [hnt]; rfl) ?_ | refine AWp.cond' fun X Y hX hY => ?_ | refine AWp.skip ?_ | refine AWp.exit ?_ | refine AWp.ret ?_ | refine Fin.auto [] ?_ | refine runS_v [] (l21Among_ok c.knows ev.height (by omega)) ?_ ?_ ?_ ?_ ?_ | refine runS_c [_, _, _, _, _, _, _, _] (l13Step_ok c s ev.n ok1 e6) rfl ?_ ?_ ?_ | ((first | apply gR | apply gC) <;> intro hq <;> (try simp only [nT, nF, n1, n0] at hq) <;> (have hb := hq) <;> (try simp only [dT, dF, eT, eF] at hb) <;> first | (exfalso; omega) | ((try simp only [hq]); clear hq))) <;> (try simp only [go_sem, qa, qb, qc, qd, qe, qf, qg, qh, qi, qj, qk, ql, qm, qn, qo, qp, qq, qr, qs, reduceIte, reduceCtorEq, e3, es])) | refine Fits.of ?_ ?_ | (refine aL ?_ (fun hp => ?_) <;> ((try simp only [rowSet_fI hp, rowSet_fI2 hp]); (try simp only [rowSet_fB hp]))) | refine aE ?_ fun hp => ?_ | refine aC ?_ fun hp => ?_ | refine And.intro ?_ ?_ | clear hK K | clear hX hY X Y | clear hL L)
            all_goals first | omega | trace_state
          · rw [if_neg k7]
            refine CallX.of tok Tryz.func102 rfl rfl Tryz.ntmps102 Tryz.results102 rfl (by decide) (fun cx hnt hk0 => ?_)
            repeat' (first | refine AWp.seq fun K hK => ?_ | refine hK _ ?_; clear hK K | refine hX ?_; clear hX hY X Y | refine hY ?_; clear hX hY X Y | refine AWp.block ?_ | refine hL _ _ ?_ | ((first | refine AWp.region tok (by rw [hnt]; rfl) ?_ | refine AWp.cond' fun X Y hX hY => ?_ | refine AWp.skip ?_ | refine AWp.exit ?_ | refine AWp.ret ?_ | refine Fin.auto [] ?_ | refine runS_v [] (l21Among_ok c.knows ev.height (by omega)) ?_ ?_ ?_ ?_ ?_ | ((first | apply gR | apply gC) <;> intro hq <;> (try simp only [nT, nF, n1, n0] at hq) <;> (have hb := hq) <;> (try simp only [dT, dF, eT, eF] at hb) <;> first | (exfalso; omega) | ((try simp only [hq]); clear hq))) <;> (try simp only [go_sem, qa, qb, qc, qd, qe, qf, qg, qh, qi, qj, qk, ql, qm, qn, qo, qp, qq, qr, qs, reduceIte, reduceCtorEq, e3, es])) | refine Fits.of ?_ ?_ | (refine aL ?_ (fun hp => ?_) <;> ((try simp only [rowSet_fI hp, rowSet_fI2 hp]); (try simp only [rowSet_fB hp]))) | refine aE ?_ fun hp => ?_ | refine aC ?_ fun hp => ?_ | refine And.intro ?_ ?_ | clear hK K | clear hX hY X Y | clear hL L)
            all_goals first | omega | trace_state
end Go.Hw
/- What is proved: what the reference finds ok of states and chains. -/
set_option linter.all false
set_option maxRecDepth 100000
set_option maxHeartbeats 4000000
namespace Go.Hw
open Go.Proofs
open Nat renaming reduceDiv → qa, reduceMod → qb, reduceAdd → qc, reduceMul → qd, reduceSub → qe, reduceLeDiff → qf, reduceBEq → qg, reduceEqDiff → qh, reduceBeqDiff → qi, reduceLT → qj
open Int renaming reduceToNat → qk, reduceAdd → ql, reduceSub → qm, reduceNeg → qn, reduceLT → qo, reduceLE → qp, reduceEq → qq, reduceBEq → qr, reduceBNe → qs
open Go.Hw renaming runG_split → gR, condG_split → gC, takG_split → gT, effG_split → gE
def pl_StateOk_ok0 : Plan := (.tak 0 (.tak 1 (.tak 2 (.tak 3 (.tak 4 (.all (.cons 5 (.tak 6 (.tak 7 (.tak 8 (.tak 9 (.tak 10 (.tak 11 (.tak 12 (.tak 13 (.tak 14 (.tak 15 (.tak 16 (.tak 17 (.tak 18 (.tak 19 (.tak 20 (.tak 21 (.tak 22 (.tak 23 (.tak 24 (.tak 25 (.tak 26 (.tak 27 (.tak 28 (.tak 29 (.tak 30 (.tak 31 (.tak 32 (.tak 33 (.tak 34 (.tak 35 (.tak 36 (.tak 37 (.tak 38 (.tak 39 (.tak 40 (.tak 41 (.tak 42 .done))))))))))))))))))))))))))))))))))))) .nil)))))))
attribute [go_sem] pl_StateOk_ok0
theorem StateOk_ok (s : State) (h1 : (s.sent.length : Int) < 1099511627776) (h4 : (s.got.length : Int) < 1099511627776) : Call Tryz.prog 142 [s.av] [] 0 (.o (BB s.ok)) [] 0 := by
  refine CallX.of tok Tryz.func142 rfl rfl Tryz.ntmps142 Tryz.results142 rfl (by decide) (fun cx hnt hk0 => ?_)
  
  repeat' (first | refine AWp.seq fun K hK => ?_ | refine hK _ ?_; clear hK K | refine hX ?_; clear hX hY X Y | refine hY ?_; clear hX hY X Y | refine AWp.block ?_ | refine hL _ _ ?_ | ((first | refine AWp.region tok (by rw [hnt]; rfl) ?_ | refine AWp.cond' fun X Y hX hY => ?_ | refine AWp.skip ?_ | refine AWp.exit ?_ | refine AWp.ret ?_ | refine Fin.auto [] ?_ | refine runS_c [] (l6In_ok _ _ _) rfl ?_ ?_ ?_ | refine AWp.draw (id := 7) tok mixed pl_StateOk_ok0 [0] [1, 4] (by kernel_rfl) (by kernel_rfl) (by rw [hnt]; rfl) ?_ | refine effS_c [] (l6In_ok _ _ _) rfl ?_ ?_ ?_ | ((first | apply gR | apply gC | apply gT | apply gE) <;> intro hq <;> (try simp only [nT, nF, n1, n0] at hq) <;> (have hb := hq) <;> (try simp only [dT, dF, eT, eF] at hb) <;> first | (exfalso; omega) | ((try simp only [hq]); clear hq))) <;> (try simp only [go_sem, qa, qb, qc, qd, qe, qf, qg, qh, qi, qj, qk, ql, qm, qn, qo, qp, qq, qr, qs, reduceIte, reduceCtorEq])) | refine Fits.of ?_ ?_ | (refine aL ?_ (fun hp => ?_) <;> ((try simp only [rowSet_fI hp, rowSet_fI2 hp]); (try simp only [rowSet_fB hp]))) | refine aE ?_ fun hp => ?_ | refine aC ?_ fun hp => ?_ | refine And.intro ?_ ?_ | clear hK K | clear hX hY X Y | clear hL L)
  all_goals try (first | omega | (simp only [decide_eq_true_eq, decide_eq_false_iff_not, decide_eq_decide]; omega))
  all_goals try (first | (simp [-List.getD_eq_getElem?_getD, State.ok, *]; done) | (simp [-List.getD_eq_getElem?_getD, State.ok, *]; omega) | (simp [-List.getD_eq_getElem?_getD, State.ok, *]; intros; omega))
  refine AWp.loop (fun i : Nat => ⟨[(1, .o (.c (.ptr 0 0 0 0))), (2, .o (BB false)), (3, .o (I s.sent.length)), (4, .o (I i))], [(0, s.box)], 1⟩) (fun i => i ≤ s.sent.length ∧ rall i s.sentOk = true) (fun i => s.sent.length - i) 0 ⟨Nat.zero_le _, rall_zero⟩ ?_ ?_
  · refine SLe.auto hk0 [] ?_; simp only [go_sem, qa, qb, qc, qd, qe, qf, qg, qh, qi, qj, qk, ql, qm, qn, qo, qp, qq, qr, qs, reduceIte, reduceCtorEq]
    simp
  intro i ⟨hi, hr⟩
  repeat' (first | refine AWp.seq fun K hK => ?_ | refine hK _ ?_; clear hK K | refine hX ?_; clear hX hY X Y | refine hY ?_; clear hX hY X Y | refine AWp.block ?_ | refine hL _ _ ?_ | ((first | refine AWp.region tok (by rw [hnt]; rfl) ?_ | refine AWp.cond' fun X Y hX hY => ?_ | refine AWp.skip ?_ | refine AWp.exit ?_ | refine AWp.ret ?_ | refine Fin.auto [] ?_ | refine runS_c [] (l6In_ok _ _ _) rfl ?_ ?_ ?_ | refine runS_c [] (PacketOk_ok (s.sent.getD i default)) rfl ?_ ?_ ?_ | refine AWp.draw (id := 7) tok mixed pl_StateOk_ok0 [0] [1, 4] (by kernel_rfl) (by kernel_rfl) (by rw [hnt]; rfl) ?_ | refine effS_c [] (l6In_ok _ _ _) rfl ?_ ?_ ?_ | refine effS_c [] (PacketOk_ok (s.sent.getD i default)) rfl ?_ ?_ ?_ | refine SLe.auto hk0 [] ?_ | ((first | apply gR | apply gC | apply gT | apply gE) <;> intro hq <;> (try simp only [nT, nF, n1, n0] at hq) <;> (have hb := hq) <;> (try simp only [dT, dF, eT, eF] at hb) <;> first | (exfalso; omega) | ((try simp only [hq]); clear hq))) <;> (try simp only [go_sem, qa, qb, qc, qd, qe, qf, qg, qh, qi, qj, qk, ql, qm, qn, qo, qp, qq, qr, qs, reduceIte, reduceCtorEq])) | refine ⟨i + 1, ?_, ?_, ?_⟩ | refine Fits.of ?_ ?_ | (refine aL ?_ (fun hp => ?_) <;> ((try simp only [rowSet_fI hp, rowSet_fI2 hp]); (try simp only [rowSet_fB hp]))) | refine aE ?_ fun hp => ?_ | refine aC ?_ fun hp => ?_ | refine And.intro ?_ ?_ | clear hK K | clear hX hY X Y | clear hL L)
  all_goals try (first | omega | (simp only [decide_eq_true_eq, decide_eq_false_iff_not, decide_eq_decide]; omega))
  all_goals try (have h0 : s.sentOk i = false := by simp [-List.getD_eq_getElem?_getD, State.sentOk, *]
                 have h9 := rall_false (p := s.sentOk) (i := i) (n := s.sent.length) (by omega) h0
                 simp [-List.getD_eq_getElem?_getD, State.ok, h9]; done)
  all_goals try (refine rall_succ hr ?_; simp [-List.getD_eq_getElem?_getD, State.sentOk, *]; omega)
  have hr2 : rall s.sent.length s.sentOk = true := by rw [show s.sent.length = i from by omega]; exact hr
  refine AWp.loop (fun i : Nat => ⟨[(1, .o (.c (.ptr 0 0 0 0))), (2, .o (BB false)), (5, .o (I i))], [(0, s.box)], 1⟩) (fun i => i ≤ s.got.length ∧ rall i (fun i => In (s.got.getD i 0) 0 2) = true) (fun i => s.got.length - i) 0 ⟨Nat.zero_le _, rall_zero⟩ ?_ ?_
  · refine SLe.auto hk0 [] ?_; simp only [go_sem, qa, qb, qc, qd, qe, qf, qg, qh, qi, qj, qk, ql, qm, qn, qo, qp, qq, qr, qs, reduceIte, reduceCtorEq]
    simp
  intro j ⟨hj, hrj⟩
  repeat' (first | refine AWp.seq fun K hK => ?_ | refine hK _ ?_; clear hK K | refine hX ?_; clear hX hY X Y | refine hY ?_; clear hX hY X Y | refine AWp.block ?_ | refine hL _ _ ?_ | ((first | refine AWp.region tok (by rw [hnt]; rfl) ?_ | refine AWp.cond' fun X Y hX hY => ?_ | refine AWp.skip ?_ | refine AWp.exit ?_ | refine AWp.ret ?_ | refine Fin.auto [] ?_ | refine runS_c [] (l6In_ok _ _ _) rfl ?_ ?_ ?_ | refine AWp.draw (id := 7) tok mixed pl_StateOk_ok0 [0] [1, 4] (by kernel_rfl) (by kernel_rfl) (by rw [hnt]; rfl) ?_ | refine effS_c [] (l6In_ok _ _ _) rfl ?_ ?_ ?_ | refine SLe.auto hk0 [] ?_ | ((first | apply gR | apply gC | apply gT | apply gE) <;> intro hq <;> (try simp only [nT, nF, n1, n0] at hq) <;> (have hb := hq) <;> (try simp only [dT, dF, eT, eF] at hb) <;> first | (exfalso; omega) | ((try simp only [hq]); clear hq))) <;> (try simp only [go_sem, qa, qb, qc, qd, qe, qf, qg, qh, qi, qj, qk, ql, qm, qn, qo, qp, qq, qr, qs, reduceIte, reduceCtorEq])) | refine ⟨j + 1, ?_, ?_, ?_⟩ | refine Fits.of ?_ ?_ | (refine aL ?_ (fun hp => ?_) <;> ((try simp only [rowSet_fI hp, rowSet_fI2 hp]); (try simp only [rowSet_fB hp]))) | refine aE ?_ fun hp => ?_ | refine aC ?_ fun hp => ?_ | refine And.intro ?_ ?_ | clear hK K | clear hX hY X Y | clear hL L)
  all_goals try (first | omega | (simp only [decide_eq_true_eq, decide_eq_false_iff_not, decide_eq_decide]; omega))
  all_goals try (have h0 : In (s.got.getD j 0) 0 2 = false := by simpa using hb
                 have h9 := rall_false (p := fun i => In (s.got.getD i 0) 0 2) (i := j) (n := s.got.length) (by omega) h0
                 simp only [State.ok, h9]; simp; done)
  all_goals try exact rall_succ hrj (by simpa using hb)
  all_goals try (simp only [In_iff] at *; omega)
  all_goals (have hr3 : rall s.got.length (fun i => In (s.got.getD i 0) 0 2) = true := by rw [show s.got.length = j from by omega]; exact hrj)
  all_goals (have h8 : (s.sent.length : Int) ≤ 8 := by omega)
  all_goals simp only [State.ok, hr2, hr3]
  all_goals simp [-List.getD_eq_getElem?_getD, *]
  all_goals (intros; decide)
end Go.Hw
/- What is proved: what the reference finds ok of chains and worlds. -/
set_option linter.all false
set_option maxRecDepth 100000
set_option maxHeartbeats 4000000
namespace Go.Hw
open Go.Proofs
open Nat renaming reduceDiv → qa, reduceMod → qb, reduceAdd → qc, reduceMul → qd, reduceSub → qe, reduceLeDiff → qf, reduceBEq → qg, reduceEqDiff → qh, reduceBeqDiff → qi, reduceLT → qj
open Int renaming reduceToNat → qk, reduceAdd → ql, reduceSub → qm, reduceNeg → qn, reduceLT → qo, reduceLE → qp, reduceEq → qq, reduceBEq → qr, reduceBNe → qs
open Go.Hw renaming runG_split → gR, condG_split → gC, takG_split → gT, effG_split → gE
def pl_ChainOk_ok0 : Plan := (.tak 0 (.tak 1 (.tak 2 (.tak 3 (.tak 4 (.all (.cons 5 (.tak 6 (.tak 7 (.tak 8 (.tak 9 (.tak 10 (.tak 11 (.tak 12 (.tak 13 (.tak 14 (.tak 15 (.tak 16 (.tak 17 (.tak 18 (.tak 19 (.tak 20 (.tak 21 (.tak 22 (.tak 23 (.tak 24 .done))))))))))))))))))) .nil)))))))
attribute [go_sem] pl_ChainOk_ok0
def State.small (s : State) : Prop := (s.sent.length : Int) < 1099511627776 ∧ (s.got.length : Int) < 1099511627776
def Chain.small (c : Chain) : Prop := (c.bank.own.length : Int) < 1099511627776 ∧ (c.bank.notes.length : Int) < 1099511627776 ∧ c.bank.locked < 1099511627776 ∧ c.state.small ∧ (c.past.length : Int) < 1099511627776 ∧ (∀ i, (c.past.getD i default).small) ∧ (c.knows.length : Int) < 1099511627776
theorem ChainOk_ok (c : Chain) (hs : c.small) : Call Tryz.prog 137 [c.av] [] 0 (.o (BB c.ok)) [] 0 := by
  obtain ⟨s1, s2, s3, s4, s5, s6, s7⟩ := hs
  refine CallX.of tok Tryz.func137 rfl rfl Tryz.ntmps137 Tryz.results137 rfl (by decide) (fun cx hnt hk0 => ?_)
  
  repeat' (first | refine AWp.seq fun K hK => ?_ | refine hK _ ?_; clear hK K | refine hX ?_; clear hX hY X Y | refine hY ?_; clear hX hY X Y | refine AWp.block ?_ | refine hL _ _ ?_ | ((first | refine AWp.region tok (by rw [hnt]; rfl) ?_ | refine AWp.cond' fun X Y hX hY => ?_ | refine AWp.skip ?_ | refine AWp.exit ?_ | refine AWp.ret ?_ | refine Fin.auto [] ?_ | refine runS_c [] (l6In_ok _ _ _) rfl ?_ ?_ ?_ | refine runS_c [] (BankOk_ok c.bank s1 s2 s3) rfl ?_ ?_ ?_ | refine runS_c [] (StateOk_ok c.state s4.1 s4.2) rfl ?_ ?_ ?_ | refine AWp.draw (id := 11) tok mixed pl_ChainOk_ok0 [0] [1, 4] (by kernel_rfl) (by kernel_rfl) (by rw [hnt]; rfl) ?_ | refine effS_c [] (l6In_ok _ _ _) rfl ?_ ?_ ?_ | refine effS_c [] (BankOk_ok c.bank s1 s2 s3) rfl ?_ ?_ ?_ | refine effS_c [] (StateOk_ok c.state s4.1 s4.2) rfl ?_ ?_ ?_ | ((first | apply gR | apply gC | apply gT | apply gE) <;> intro hq <;> (try simp only [nT, nF, n1, n0] at hq) <;> (have hb := hq) <;> (try simp only [dT, dF, eT, eF] at hb) <;> first | (exfalso; omega) | ((try simp only [hq]); clear hq))) <;> (try simp only [go_sem, qa, qb, qc, qd, qe, qf, qg, qh, qi, qj, qk, ql, qm, qn, qo, qp, qq, qr, qs, reduceIte, reduceCtorEq])) | refine Fits.of ?_ ?_ | (refine aL ?_ (fun hp => ?_) <;> ((try simp only [rowSet_fI hp, rowSet_fI2 hp]); (try simp only [rowSet_fB hp]))) | refine aE ?_ fun hp => ?_ | refine aC ?_ fun hp => ?_ | refine And.intro ?_ ?_ | clear hK K | clear hX hY X Y | clear hL L)
  all_goals try (first | omega | (simp only [decide_eq_true_eq, decide_eq_false_iff_not, decide_eq_decide]; omega))
  all_goals try (first | (simp [-List.getD_eq_getElem?_getD, Chain.ok, *]; done) | (simp [-List.getD_eq_getElem?_getD, Chain.ok, *]; omega) | (simp [-List.getD_eq_getElem?_getD, Chain.ok, *]; intros; omega))
  refine AWp.loop (fun i : Nat => ⟨[(1, .o (.c (.ptr 0 0 0 0))), (2, .o (BB false)), (3, .o (I i))], [(0, c.box)], 1⟩) (fun i => i ≤ c.past.length ∧ rall i (fun i => (c.past.getD i default).ok) = true) (fun i => c.past.length - i) 0 ⟨Nat.zero_le _, rall_zero⟩ ?_ ?_
  · refine SLe.auto hk0 [] ?_; simp only [go_sem, qa, qb, qc, qd, qe, qf, qg, qh, qi, qj, qk, ql, qm, qn, qo, qp, qq, qr, qs, reduceIte, reduceCtorEq]
    simp
  intro i ⟨hi, hr⟩
  repeat' (first | refine AWp.seq fun K hK => ?_ | refine hK _ ?_; clear hK K | refine hX ?_; clear hX hY X Y | refine hY ?_; clear hX hY X Y | refine AWp.block ?_ | refine hL _ _ ?_ | ((first | refine AWp.region tok (by rw [hnt]; rfl) ?_ | refine AWp.cond' fun X Y hX hY => ?_ | refine AWp.skip ?_ | refine AWp.exit ?_ | refine AWp.ret ?_ | refine Fin.auto [] ?_ | refine runS_c [] (StateOk_ok (c.past.getD i default) (s6 i).1 (s6 i).2) rfl ?_ ?_ ?_ | refine AWp.draw (id := 11) tok mixed pl_ChainOk_ok0 [0] [1, 4] (by kernel_rfl) (by kernel_rfl) (by rw [hnt]; rfl) ?_ | refine effS_c [] (StateOk_ok (c.past.getD i default) (s6 i).1 (s6 i).2) rfl ?_ ?_ ?_ | refine SLe.auto hk0 [] ?_ | ((first | apply gR | apply gC | apply gT | apply gE) <;> intro hq <;> (try simp only [nT, nF, n1, n0] at hq) <;> (have hb := hq) <;> (try simp only [dT, dF, eT, eF] at hb) <;> first | (exfalso; omega) | ((try simp only [hq]); clear hq))) <;> (try simp only [go_sem, qa, qb, qc, qd, qe, qf, qg, qh, qi, qj, qk, ql, qm, qn, qo, qp, qq, qr, qs, reduceIte, reduceCtorEq])) | refine ⟨i + 1, ?_, ?_, ?_⟩ | refine Fits.of ?_ ?_ | (refine aL ?_ (fun hp => ?_) <;> ((try simp only [rowSet_fI hp, rowSet_fI2 hp]); (try simp only [rowSet_fB hp]))) | refine aE ?_ fun hp => ?_ | refine aC ?_ fun hp => ?_ | refine And.intro ?_ ?_ | clear hK K | clear hX hY X Y | clear hL L)
  all_goals try (first | omega | (simp only [decide_eq_true_eq, decide_eq_false_iff_not, decide_eq_decide]; omega))
  · have h9 := rall_false (p := fun i => (c.past.getD i default).ok) (i := i) (n := c.past.length) (by omega) (by simpa using hb)
    simp only [Chain.ok, h9]; simp
  · exact rall_succ hr (by simpa using hb)
  have hr2 : rall c.past.length (fun i => (c.past.getD i default).ok) = true := by rw [show c.past.length = i from by omega]; exact hr
  refine AWp.loop (fun i : Nat => ⟨[(1, .o (.c (.ptr 0 0 0 0))), (2, .o (BB false)), (4, .o (I i))], [(0, c.box)], 1⟩) (fun i => i ≤ c.knows.length ∧ rall i (knowOk c.knows) = true) (fun i => c.knows.length - i) 0 ⟨Nat.zero_le _, rall_zero⟩ ?_ ?_
  · refine SLe.auto hk0 [] ?_; simp only [go_sem, qa, qb, qc, qd, qe, qf, qg, qh, qi, qj, qk, ql, qm, qn, qo, qp, qq, qr, qs, reduceIte, reduceCtorEq]
    simp
  intro j ⟨hj, hrj⟩
  repeat' (first | refine AWp.seq fun K hK => ?_ | refine hK _ ?_; clear hK K | refine hX ?_; clear hX hY X Y | refine hY ?_; clear hX hY X Y | refine AWp.block ?_ | refine hL _ _ ?_ | ((first | refine AWp.region tok (by rw [hnt]; rfl) ?_ | refine AWp.cond' fun X Y hX hY => ?_ | refine AWp.skip ?_ | refine AWp.exit ?_ | refine AWp.ret ?_ | refine Fin.auto [] ?_ | refine runS_c [] (l6In_ok _ _ _) rfl ?_ ?_ ?_ | refine AWp.draw (id := 11) tok mixed pl_ChainOk_ok0 [0] [1, 4] (by kernel_rfl) (by kernel_rfl) (by rw [hnt]; rfl) ?_ | refine effS_c [] (l6In_ok _ _ _) rfl ?_ ?_ ?_ | refine SLe.auto hk0 [] ?_ | ((first | apply gR | apply gC | apply gT | apply gE) <;> intro hq <;> (try simp only [nT, nF, n1, n0] at hq) <;> (have hb := hq) <;> (try simp only [dT, dF, eT, eF] at hb) <;> first | (exfalso; omega) | ((try simp only [hq]); clear hq))) <;> (try simp only [go_sem, qa, qb, qc, qd, qe, qf, qg, qh, qi, qj, qk, ql, qm, qn, qo, qp, qq, qr, qs, reduceIte, reduceCtorEq])) | refine ⟨j + 1, ?_, ?_, ?_⟩ | refine Fits.of ?_ ?_ | (refine aL ?_ (fun hp => ?_) <;> ((try simp only [rowSet_fI hp, rowSet_fI2 hp]); (try simp only [rowSet_fB hp]))) | refine aE ?_ fun hp => ?_ | refine aC ?_ fun hp => ?_ | refine And.intro ?_ ?_ | clear hK K | clear hX hY X Y | clear hL L)
  all_goals try (first | omega | (simp only [decide_eq_true_eq, decide_eq_false_iff_not, decide_eq_decide]; omega))
  all_goals try (have h0 : knowOk c.knows j = false := by simp only [knowOk, *, decide_true, decide_false, Bool.true_and, Bool.and_true, Bool.false_and, Bool.and_false, Bool.not_true, Bool.not_false, Bool.and_self, Bool.true_or, Bool.or_true, Bool.false_or, Bool.or_false, cond_true, cond_false, not_true_eq_false, not_false_eq_true]
                 have h9 := rall_false (p := knowOk c.knows) (i := j) (n := c.knows.length) (by omega) h0
                 simp only [Chain.ok, h9]; simp; done)
  all_goals try (refine rall_succ hrj ?_; simp only [knowOk, *, decide_true, decide_false, Bool.true_and, Bool.and_true, Bool.false_and, Bool.and_false, Bool.not_true, Bool.not_false, Bool.and_self, Bool.true_or, Bool.or_true, Bool.false_or, Bool.or_false, cond_true, cond_false, not_true_eq_false, not_false_eq_true]; done)
  have hr3 : rall c.knows.length (knowOk c.knows) = true := by rw [show c.knows.length = j from by omega]; exact hrj
  have h8 : (c.past.length : Int) ≤ 90 := by omega
  simp only [Chain.ok, hr2, hr3]; simp [-List.getD_eq_getElem?_getD, *]
end Go.Hw
/- What is proved: what the reference finds ok of chains and worlds. -/
set_option linter.all false
set_option maxRecDepth 100000
set_option maxHeartbeats 4000000
namespace Go.Hw
open Go.Proofs
open Nat renaming reduceDiv → qa, reduceMod → qb, reduceAdd → qc, reduceMul → qd, reduceSub → qe, reduceLeDiff → qf, reduceBEq → qg, reduceEqDiff → qh, reduceBeqDiff → qi, reduceLT → qj
open Int renaming reduceToNat → qk, reduceAdd → ql, reduceSub → qm, reduceNeg → qn, reduceLT → qo, reduceLE → qp, reduceEq → qq, reduceBEq → qr, reduceBNe → qs
open Go.Hw renaming runG_split → gR, condG_split → gC, takG_split → gT, effG_split → gE
def pl_WorldOk_ok0 : Plan := (.tak 0 (.all (.cons 1 (.tak 2 (.tak 3 (.tak 4 (.tak 5 (.tak 6 (.tak 7 (.tak 8 (.tak 9 (.tak 10 (.tak 11 (.tak 12 (.tak 13 (.tak 14 (.tak 15 (.tak 16 (.tak 17 (.tak 18 (.tak 19 (.tak 20 (.tak 21 (.tak 22 (.tak 23 (.tak 24 (.tak 25 (.tak 26 (.tak 27 (.tak 28 (.tak 29 (.tak 30 (.tak 31 (.tak 32 (.tak 33 (.tak 34 .done))))))))))))))))))))))))))))))))) .nil)))
attribute [go_sem] pl_WorldOk_ok0
theorem WorldOk_ok (w : List Chain) (hs : ∀ i, (w.getD i default).small) (hw : (w.length : Int) < 1099511627776) : Call Tryz.prog 105 [.g [.t (chainsT w)]] [] 0 (.o (BB (wOk w))) [] 0 := by
  refine CallX.of tok Tryz.func105 rfl rfl Tryz.ntmps105 Tryz.results105 rfl (by decide) (fun cx hnt hk0 => ?_)
  
  repeat' (first | refine AWp.seq fun K hK => ?_ | refine hK _ ?_; clear hK K | refine hX ?_; clear hX hY X Y | refine hY ?_; clear hX hY X Y | refine AWp.block ?_ | refine hL _ _ ?_ | ((first | refine AWp.region tok (by rw [hnt]; rfl) ?_ | refine AWp.cond' fun X Y hX hY => ?_ | refine AWp.skip ?_ | refine AWp.exit ?_ | refine AWp.ret ?_ | refine Fin.auto [] ?_ | refine AWp.draw (id := 7) tok mixed pl_WorldOk_ok0 [0, 1, 2] [1, 3, 4] (by kernel_rfl) (by kernel_rfl) (by rw [hnt]; rfl) ?_ | ((first | apply gR | apply gC | apply gT | apply gE) <;> intro hq <;> (try simp only [nT, nF, n1, n0] at hq) <;> (have hb := hq) <;> (try simp only [dT, dF, eT, eF] at hb) <;> first | (exfalso; omega) | ((try simp only [hq]); clear hq))) <;> (try simp only [go_sem, qa, qb, qc, qd, qe, qf, qg, qh, qi, qj, qk, ql, qm, qn, qo, qp, qq, qr, qs, reduceIte, reduceCtorEq])) | refine Fits.of ?_ ?_ | (refine aL ?_ (fun hp => ?_) <;> ((try simp only [rowSet_fI hp, rowSet_fI2 hp]); (try simp only [rowSet_fB hp]))) | refine aE ?_ fun hp => ?_ | refine aC ?_ fun hp => ?_ | refine And.intro ?_ ?_ | clear hK K | clear hX hY X Y | clear hL L)
  all_goals try (first | (simp [-List.getD_eq_getElem?_getD, wOk, *]; done) | (simp [-List.getD_eq_getElem?_getD, wOk, *]; omega) | (simp [-List.getD_eq_getElem?_getD, wOk, *]; intros; omega))
  refine AWp.loopN 3 fun L hL => ?_
  have a0 := hs 0
  have a1 := hs 1
  repeat' (first | refine AWp.seq fun K hK => ?_ | refine hK _ ?_; clear hK K | refine hX ?_; clear hX hY X Y | refine hY ?_; clear hX hY X Y | refine AWp.block ?_ | refine hL _ _ ?_ | ((first | refine AWp.region tok (by rw [hnt]; rfl) ?_ | refine AWp.cond' fun X Y hX hY => ?_ | refine AWp.skip ?_ | refine AWp.exit ?_ | refine AWp.ret ?_ | refine Fin.auto [] ?_ | refine runS_c [] (ChainOk_ok (w.getD 0 default) a0) rfl ?_ ?_ ?_ | refine runS_c [] (ChainOk_ok (w.getD 1 default) a1) rfl ?_ ?_ ?_ | refine AWp.draw (id := 7) tok mixed pl_WorldOk_ok0 [0, 1, 2] [1, 3, 4] (by kernel_rfl) (by kernel_rfl) (by rw [hnt]; rfl) ?_ | refine effS_c [] (ChainOk_ok (w.getD 0 default) a0) rfl ?_ ?_ ?_ | refine effS_c [] (ChainOk_ok (w.getD 1 default) a1) rfl ?_ ?_ ?_ | ((first | apply gR | apply gC | apply gT | apply gE) <;> intro hq <;> (try simp only [nT, nF, n1, n0] at hq) <;> (have hb := hq) <;> (try simp only [dT, dF, eT, eF] at hb) <;> first | (exfalso; omega) | ((try simp only [hq]); clear hq))) <;> (try simp only [go_sem, qa, qb, qc, qd, qe, qf, qg, qh, qi, qj, qk, ql, qm, qn, qo, qp, qq, qr, qs, reduceIte, reduceCtorEq])) | refine Fits.of ?_ ?_ | (refine aL ?_ (fun hp => ?_) <;> ((try simp only [rowSet_fI hp, rowSet_fI2 hp]); (try simp only [rowSet_fB hp]))) | refine aE ?_ fun hp => ?_ | refine aC ?_ fun hp => ?_ | refine And.intro ?_ ?_ | clear hK K | clear hX hY X Y | clear hL L)
  all_goals try (first | omega | (simp only [decide_eq_true_eq, decide_eq_false_iff_not, decide_eq_decide]; omega))
  all_goals try (have q0 : (((w.getD 0 default).knows.length : Int)) < 1099511627776 := a0.2.2.2.2.2.2
                 have q1 : (((w.getD 1 default).knows.length : Int)) < 1099511627776 := a1.2.2.2.2.2.2
                 omega)
  all_goals (simp only [wOk, kOk, *, decide_true, decide_false, Bool.true_and, Bool.and_true, Bool.false_and, Bool.and_false, Bool.not_true, Bool.not_false, Bool.and_self, Bool.true_or, Bool.or_true, Bool.false_or, Bool.or_false, cond_true, cond_false, not_true_eq_false, not_false_eq_true])
end Go.Hw
