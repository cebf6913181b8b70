/- What is proved here: parts W52 of the walk of the law and of its plain side; no condition but those that each theorem states. -/
import Derived.Test.YtcbceacjhmblnaaGreatE5
import Derived.Test.YtcbceacjhmblnaaGreatE4
/- What is proved: what a chain that is worked on does with what is carried to it. -/
set_option linter.all false
set_option maxRecDepth 100000
set_option maxHeartbeats 4000000
namespace Go.Hw
open Go.Proofs
open Nat renaming reduceDiv → qa, reduceMod → qb, reduceAdd → qc, reduceMul → qd, reduceSub → qe, reduceLeDiff → qf, reduceBEq → qg, reduceEqDiff → qh, reduceBeqDiff → qi, reduceLT → qj
open Int renaming reduceToNat → qk, reduceAdd → ql, reduceSub → qm, reduceNeg → qn, reduceLT → qo, reduceLE → qp, reduceEq → qq, reduceBEq → qr, reduceBNe → qs
open Go.Hw renaming runG_split → gR, condG_split → gC, takG_split → gT, effG_split → gE
def pl_mine_settled0 : Plan := (.tak 0 (.tak 1 (.tak 2 (.tak 3 (.tak 4 (.all (.cons 5 (.tak 6 (.tak 7 (.tak 8 (.tak 9 (.tak 10 (.tak 11 (.tak 12 (.tak 13 (.tak 14 (.tak 15 (.tak 16 (.tak 17 (.tak 18 (.all (.cons 19 (.tak 20 (.tak 21 .done)) .nil))))))))))))))) .nil)))))))
attribute [go_sem] pl_mine_settled0
def pl_mine_settled1 : Plan := (.tak 0 (.tak 1 (.tak 2 (.tak 3 (.tak 4 (.tak 5 (.tak 6 (.all (.cons 7 (.tak 8 (.tak 9 (.tak 10 (.all (.cons 11 (.all (.cons 12 (.tak 13 .done) .nil)) .nil))))) (.cons 11 (.all (.cons 7 (.tak 8 (.tak 9 (.tak 10 (.all (.cons 12 (.tak 13 .done) .nil))))) .nil)) .nil))))))))))
attribute [go_sem] pl_mine_settled1
def pl_mine_settled2 : Plan := (.tak 0 (.tak 1 (.tak 2 (.tak 3 (.tak 4 (.tak 5 (.tak 6 (.tak 7 (.tak 8 (.all (.cons 9 .done .nil)))))))))))
attribute [go_sem] pl_mine_settled2
def pl_mine_settled3 : Plan := (.tak 0 (.tak 1 (.tak 2 (.tak 3 (.tak 4 (.tak 5 (.tak 6 (.tak 7 (.tak 8 (.all (.cons 9 (.tak 10 (.tak 11 (.tak 12 (.all (.cons 13 (.all (.cons 14 (.tak 15 .done) .nil)) .nil))))) (.cons 13 (.all (.cons 9 (.tak 10 (.tak 11 (.tak 12 (.all (.cons 14 (.tak 15 .done) .nil))))) .nil)) .nil))))))))))))
attribute [go_sem] pl_mine_settled3
theorem mine_settled {c : Chain} {seq : Int} : c.state.settledV seq = 1 ↔ c.mine seq = true := by
  unfold State.settledV Chain.mine
  by_cases h : In seq 1 c.state.sent.length = true
  · rw [if_pos h, h, Bool.true_and]
    cases h1 : c.state.live.getD (seq - 1).toNat false
    · cases h2 : c.state.back.getD (seq - 1).toNat false <;> simp
    · simp
  · rw [if_neg h]
    have : In seq 1 c.state.sent.length = false := by simpa using h
    rw [this]; simp
theorem mayTell_ok (c : Chain) (s : State) (h seq : Int) (hc : c.state.ok = true) (hs : s.ok = true) : Call Tryz.prog 123 [.c (.ptr 0 0 0 0), proofA s h, I seq] (linkH c 0 1) 8 (.o (BB (c.tellB s seq))) (linkH c 0 1) 8 := by
  obtain ⟨r1, r2, r3, r4, r5, r6, r7, r8, r9⟩ := state_ok hc
  obtain ⟨u1, u2, u3, u4, u5, u6, u7, u8, u9⟩ := state_ok hs
  unfold Chain.tellB
  have cS := StateSettled_yes c.state seq hc
  cases hm : c.mine seq
  · have e : ¬ c.state.settledV seq = 1 := by rw [mine_settled, hm]; simp
    refine CallX.of tok Tryz.func123 rfl rfl Tryz.ntmps123 Tryz.results123 rfl (by decide) (fun cx hnt hk0 => ?_)
    repeat' (first | refine AWp.seq fun K hK => ?_ | refine hK _ ?_; clear hK K | refine hX ?_; clear hX hY X Y | refine hY ?_; clear hX hY X Y | refine AWp.block ?_ | refine hL _ _ ?_ | ((first | refine AWp.region tok (by rw [hnt]; rfl) ?_ | refine AWp.cond' fun X Y hX hY => ?_ | refine AWp.skip ?_ | refine AWp.exit ?_ | refine AWp.ret ?_ | refine Fin.auto [] ?_ | refine runS_v [] (cS) ?_ ?_ ?_ ?_ ?_ | ((first | apply gR | apply gC) <;> intro hq <;> (try simp only [nT, nF, n1, n0] at hq) <;> (have hb := hq) <;> (try simp only [dT, dF, eT, eF] at hb) <;> first | (exfalso; omega) | ((try simp only [hq]); clear hq))) <;> (try simp only [go_sem, qa, qb, qc, qd, qe, qf, qg, qh, qi, qj, qk, ql, qm, qn, qo, qp, qq, qr, qs, reduceIte, reduceCtorEq])) | refine Fits.of ?_ ?_ | (refine aL ?_ (fun hp => ?_) <;> ((try simp only [rowSet_fI hp, rowSet_fI2 hp]); (try simp only [rowSet_fB hp]))) | refine aE ?_ fun hp => ?_ | refine aC ?_ fun hp => ?_ | refine And.intro ?_ ?_ | clear hK K | clear hX hY X Y | clear hL L)
    all_goals try omega
    all_goals simp
  · have e : c.state.settledV seq = 1 := mine_settled.2 hm
    have hi : 1 ≤ seq ∧ seq ≤ 8 := by
      simp only [Chain.mine, Bool.and_eq_true, In_iff] at hm; omega
    have cF := fateAt_ok s seq hs hi
    have hg := u8 (seq - 1).toNat (by omega)
    rw [e] at cS
    rcases (show s.gotAt seq = 0 ∨ s.gotAt seq = 1 ∨ s.gotAt seq = 2 by unfold State.gotAt; omega) with eg | eg | eg
    · rw [fateV_0 eg] at cF
      rw [eg]
      refine CallX.of tok Tryz.func123 rfl rfl Tryz.ntmps123 Tryz.results123 rfl (by decide) (fun cx hnt hk0 => ?_)
      repeat' (first | refine AWp.seq fun K hK => ?_ | refine hK _ ?_; clear hK K | refine hX ?_; clear hX hY X Y | refine hY ?_; clear hX hY X Y | refine AWp.block ?_ | refine hL _ _ ?_ | ((first | refine AWp.region tok (by rw [hnt]; rfl) ?_ | refine AWp.cond' fun X Y hX hY => ?_ | refine AWp.skip ?_ | refine AWp.exit ?_ | refine AWp.ret ?_ | refine Fin.auto [] ?_ | refine runS_v [] (cS) ?_ ?_ ?_ ?_ ?_ | refine runS_c [] (cF) rfl ?_ ?_ ?_ | refine runS_c [] (settled_none) rfl ?_ ?_ ?_ | ((first | apply gR | apply gC) <;> intro hq <;> (try simp only [nT, nF, n1, n0] at hq) <;> (have hb := hq) <;> (try simp only [dT, dF, eT, eF] at hb) <;> first | (exfalso; omega) | ((try simp only [hq]); clear hq))) <;> (try simp only [go_sem, qa, qb, qc, qd, qe, qf, qg, qh, qi, qj, qk, ql, qm, qn, qo, qp, qq, qr, qs, reduceIte, reduceCtorEq])) | refine Fits.of ?_ ?_ | (refine aL ?_ (fun hp => ?_) <;> ((try simp only [rowSet_fI hp, rowSet_fI2 hp]); (try simp only [rowSet_fB hp]))) | refine aE ?_ fun hp => ?_ | refine aC ?_ fun hp => ?_ | refine And.intro ?_ ?_ | clear hK K | clear hX hY X Y | clear hL L)
      all_goals try omega
      all_goals simp
    · rw [fateV_1 eg] at cF
      rw [eg]
      refine CallX.of tok Tryz.func123 rfl rfl Tryz.ntmps123 Tryz.results123 rfl (by decide) (fun cx hnt hk0 => ?_)
      repeat' (first | refine AWp.seq fun K hK => ?_ | refine hK _ ?_; clear hK K | refine hX ?_; clear hX hY X Y | refine hY ?_; clear hX hY X Y | refine AWp.block ?_ | refine hL _ _ ?_ | ((first | refine AWp.region tok (by rw [hnt]; rfl) ?_ | refine AWp.cond' fun X Y hX hY => ?_ | refine AWp.skip ?_ | refine AWp.exit ?_ | refine AWp.ret ?_ | refine Fin.auto [] ?_ | refine runS_v [] (cS) ?_ ?_ ?_ ?_ ?_ | refine runS_c [] (cF) rfl ?_ ?_ ?_ | refine runS_c [] (settled_ok) rfl ?_ ?_ ?_ | ((first | apply gR | apply gC) <;> intro hq <;> (try simp only [nT, nF, n1, n0] at hq) <;> (have hb := hq) <;> (try simp only [dT, dF, eT, eF] at hb) <;> first | (exfalso; omega) | ((try simp only [hq]); clear hq))) <;> (try simp only [go_sem, qa, qb, qc, qd, qe, qf, qg, qh, qi, qj, qk, ql, qm, qn, qo, qp, qq, qr, qs, reduceIte, reduceCtorEq])) | refine Fits.of ?_ ?_ | (refine aL ?_ (fun hp => ?_) <;> ((try simp only [rowSet_fI hp, rowSet_fI2 hp]); (try simp only [rowSet_fB hp]))) | refine aE ?_ fun hp => ?_ | refine aC ?_ fun hp => ?_ | refine And.intro ?_ ?_ | clear hK K | clear hX hY X Y | clear hL L)
      all_goals try omega
      all_goals simp
    · rw [fateV_2 eg] at cF
      rw [eg]
      refine CallX.of tok Tryz.func123 rfl rfl Tryz.ntmps123 Tryz.results123 rfl (by decide) (fun cx hnt hk0 => ?_)
      repeat' (first | refine AWp.seq fun K hK => ?_ | refine hK _ ?_; clear hK K | refine hX ?_; clear hX hY X Y | refine hY ?_; clear hX hY X Y | refine AWp.block ?_ | refine hL _ _ ?_ | ((first | refine AWp.region tok (by rw [hnt]; rfl) ?_ | refine AWp.cond' fun X Y hX hY => ?_ | refine AWp.skip ?_ | refine AWp.exit ?_ | refine AWp.ret ?_ | refine Fin.auto [] ?_ | refine runS_v [] (cS) ?_ ?_ ?_ ?_ ?_ | refine runS_c [] (cF) rfl ?_ ?_ ?_ | refine runS_c [] (settled_bad) rfl ?_ ?_ ?_ | ((first | apply gR | apply gC) <;> intro hq <;> (try simp only [nT, nF, n1, n0] at hq) <;> (have hb := hq) <;> (try simp only [dT, dF, eT, eF] at hb) <;> first | (exfalso; omega) | ((try simp only [hq]); clear hq))) <;> (try simp only [go_sem, qa, qb, qc, qd, qe, qf, qg, qh, qi, qj, qk, ql, qm, qn, qo, qp, qq, qr, qs, reduceIte, reduceCtorEq])) | refine Fits.of ?_ ?_ | (refine aL ?_ (fun hp => ?_) <;> ((try simp only [rowSet_fI hp, rowSet_fI2 hp]); (try simp only [rowSet_fB hp]))) | refine aE ?_ fun hp => ?_ | refine aC ?_ fun hp => ?_ | refine And.intro ?_ ?_ | clear hK K | clear hX hY X Y | clear hL L)
      all_goals try omega
      all_goals simp
theorem mayLate_ok (c : Chain) (s : State) (h seq : Int) (hc : c.state.ok = true) (hs : s.ok = true) : Call Tryz.prog 125 [.c (.ptr 0 0 0 0), proofA s h, I seq] (linkH c 0 1) 8 (.o (BB (c.lateB s h seq))) (linkH c 0 1) 8 := by
  obtain ⟨r1, r2, r3, r4, r5, r6, r7, r8, r9⟩ := state_ok hc
  obtain ⟨u1, u2, u3, u4, u5, u6, u7, u8, u9⟩ := state_ok hs
  unfold Chain.lateB
  have cS := StateSettled_yes c.state seq hc
  cases hm : c.mine seq
  · have e : ¬ c.state.settledV seq = 1 := by rw [mine_settled, hm]; simp
    refine CallX.of tok Tryz.func125 rfl rfl Tryz.ntmps125 Tryz.results125 rfl (by decide) (fun cx hnt hk0 => ?_)
    
    
    repeat' (first | refine AWp.seq fun K hK => ?_ | refine hK _ ?_; clear hK K | refine hX ?_; clear hX hY X Y | refine hY ?_; clear hX hY X Y | refine AWp.block ?_ | refine hL _ _ ?_ | ((first | refine AWp.region tok (by rw [hnt]; rfl) ?_ | refine AWp.cond' fun X Y hX hY => ?_ | refine AWp.skip ?_ | refine AWp.exit ?_ | refine AWp.ret ?_ | refine Fin.auto [] ?_ | refine runS_v [] (cS) ?_ ?_ ?_ ?_ ?_ | refine AWp.draw (id := 1) tok mixed pl_mine_settled0 [0, 8] [0, 2, 4] (by kernel_rfl) (by kernel_rfl) (by rw [hnt]; rfl) ?_ | refine effS_v [] (cS) ?_ ?_ ?_ ?_ ?_ | ((first | apply gR | apply gC | apply gT | apply gE) <;> intro hq <;> (try simp only [nT, nF, n1, n0] at hq) <;> (have hb := hq) <;> (try simp only [dT, dF, eT, eF] at hb) <;> first | (exfalso; omega) | ((try simp only [hq]); clear hq))) <;> (try simp only [go_sem, qa, qb, qc, qd, qe, qf, qg, qh, qi, qj, qk, ql, qm, qn, qo, qp, qq, qr, qs, reduceIte, reduceCtorEq])) | refine Fits.of ?_ ?_ | (refine aL ?_ (fun hp => ?_) <;> ((try simp only [rowSet_fI hp, rowSet_fI2 hp]); (try simp only [rowSet_fB hp]))) | refine aE ?_ fun hp => ?_ | refine aC ?_ fun hp => ?_ | refine And.intro ?_ ?_ | clear hK K | clear hX hY X Y | clear hL L)
    all_goals try omega
    all_goals simp
  · have e : c.state.settledV seq = 1 := mine_settled.2 hm
    have hi : 1 ≤ seq ∧ seq ≤ 8 ∧ seq ≤ c.state.sent.length := by
      simp only [Chain.mine, Bool.and_eq_true, In_iff] at hm; omega
    have es : c.state.sent.getD (seq - 1).toNat default = c.sentAt seq := rfl
    have cF := fateAt_ok s seq hs (by omega)
    have hg := u8 (seq - 1).toNat (by omega)
    rw [e] at cS
    by_cases ht : (c.sentAt seq).till ≤ h
    · rw [decide_eq_true ht]
      rcases (show s.gotAt seq = 0 ∨ s.gotAt seq = 1 ∨ s.gotAt seq = 2 by unfold State.gotAt; omega) with eg | eg | eg
      · rw [fateV_0 eg] at cF
        rw [eg]
        refine CallX.of tok Tryz.func125 rfl rfl Tryz.ntmps125 Tryz.results125 rfl (by decide) (fun cx hnt hk0 => ?_)
        
        
        repeat' (first | refine AWp.seq fun K hK => ?_ | refine hK _ ?_; clear hK K | refine hX ?_; clear hX hY X Y | refine hY ?_; clear hX hY X Y | refine AWp.block ?_ | refine hL _ _ ?_ | ((first | refine AWp.region tok (by rw [hnt]; rfl) ?_ | refine AWp.cond' fun X Y hX hY => ?_ | refine AWp.skip ?_ | refine AWp.exit ?_ | refine AWp.ret ?_ | refine Fin.auto [] ?_ | refine runS_v [] (cS) ?_ ?_ ?_ ?_ ?_ | refine runS_c [] (cF) rfl ?_ ?_ ?_ | refine runS_c [] (settled_none) rfl ?_ ?_ ?_ | refine AWp.draw (id := 1) tok mixed pl_mine_settled0 [0, 8] [0, 2, 4] (by kernel_rfl) (by kernel_rfl) (by rw [hnt]; rfl) ?_ | refine effS_v [] (cS) ?_ ?_ ?_ ?_ ?_ | refine effS_c [] (cF) rfl ?_ ?_ ?_ | refine effS_c [] (settled_none) rfl ?_ ?_ ?_ | ((first | apply gR | apply gC | apply gT | apply gE) <;> intro hq <;> (try simp only [nT, nF, n1, n0] at hq) <;> (have hb := hq) <;> (try simp only [dT, dF, eT, eF] at hb) <;> first | (exfalso; omega) | ((try simp only [hq]); clear hq))) <;> (try simp only [go_sem, qa, qb, qc, qd, qe, qf, qg, qh, qi, qj, qk, ql, qm, qn, qo, qp, qq, qr, qs, reduceIte, reduceCtorEq, es])) | refine Fits.of ?_ ?_ | (refine aL ?_ (fun hp => ?_) <;> ((try simp only [rowSet_fI hp, rowSet_fI2 hp]); (try simp only [rowSet_fB hp]))) | refine aE ?_ fun hp => ?_ | refine aC ?_ fun hp => ?_ | refine And.intro ?_ ?_ | clear hK K | clear hX hY X Y | clear hL L)
        all_goals try omega
        all_goals try simp
      · rw [fateV_1 eg] at cF
        rw [eg]
        refine CallX.of tok Tryz.func125 rfl rfl Tryz.ntmps125 Tryz.results125 rfl (by decide) (fun cx hnt hk0 => ?_)
        
        
        repeat' (first | refine AWp.seq fun K hK => ?_ | refine hK _ ?_; clear hK K | refine hX ?_; clear hX hY X Y | refine hY ?_; clear hX hY X Y | refine AWp.block ?_ | refine hL _ _ ?_ | ((first | refine AWp.region tok (by rw [hnt]; rfl) ?_ | refine AWp.cond' fun X Y hX hY => ?_ | refine AWp.skip ?_ | refine AWp.exit ?_ | refine AWp.ret ?_ | refine Fin.auto [] ?_ | refine runS_v [] (cS) ?_ ?_ ?_ ?_ ?_ | refine runS_c [] (cF) rfl ?_ ?_ ?_ | refine runS_c [] (settled_ok) rfl ?_ ?_ ?_ | refine AWp.draw (id := 1) tok mixed pl_mine_settled0 [0, 8] [0, 2, 4] (by kernel_rfl) (by kernel_rfl) (by rw [hnt]; rfl) ?_ | refine effS_v [] (cS) ?_ ?_ ?_ ?_ ?_ | refine effS_c [] (cF) rfl ?_ ?_ ?_ | refine effS_c [] (settled_ok) rfl ?_ ?_ ?_ | ((first | apply gR | apply gC | apply gT | apply gE) <;> intro hq <;> (try simp only [nT, nF, n1, n0] at hq) <;> (have hb := hq) <;> (try simp only [dT, dF, eT, eF] at hb) <;> first | (exfalso; omega) | ((try simp only [hq]); clear hq))) <;> (try simp only [go_sem, qa, qb, qc, qd, qe, qf, qg, qh, qi, qj, qk, ql, qm, qn, qo, qp, qq, qr, qs, reduceIte, reduceCtorEq, es])) | refine Fits.of ?_ ?_ | (refine aL ?_ (fun hp => ?_) <;> ((try simp only [rowSet_fI hp, rowSet_fI2 hp]); (try simp only [rowSet_fB hp]))) | refine aE ?_ fun hp => ?_ | refine aC ?_ fun hp => ?_ | refine And.intro ?_ ?_ | clear hK K | clear hX hY X Y | clear hL L)
        all_goals try omega
        all_goals try simp
      · rw [fateV_2 eg] at cF
        rw [eg]
        refine CallX.of tok Tryz.func125 rfl rfl Tryz.ntmps125 Tryz.results125 rfl (by decide) (fun cx hnt hk0 => ?_)
        
        
        repeat' (first | refine AWp.seq fun K hK => ?_ | refine hK _ ?_; clear hK K | refine hX ?_; clear hX hY X Y | refine hY ?_; clear hX hY X Y | refine AWp.block ?_ | refine hL _ _ ?_ | ((first | refine AWp.region tok (by rw [hnt]; rfl) ?_ | refine AWp.cond' fun X Y hX hY => ?_ | refine AWp.skip ?_ | refine AWp.exit ?_ | refine AWp.ret ?_ | refine Fin.auto [] ?_ | refine runS_v [] (cS) ?_ ?_ ?_ ?_ ?_ | refine runS_c [] (cF) rfl ?_ ?_ ?_ | refine runS_c [] (settled_bad) rfl ?_ ?_ ?_ | refine AWp.draw (id := 1) tok mixed pl_mine_settled0 [0, 8] [0, 2, 4] (by kernel_rfl) (by kernel_rfl) (by rw [hnt]; rfl) ?_ | refine effS_v [] (cS) ?_ ?_ ?_ ?_ ?_ | refine effS_c [] (cF) rfl ?_ ?_ ?_ | refine effS_c [] (settled_bad) rfl ?_ ?_ ?_ | ((first | apply gR | apply gC | apply gT | apply gE) <;> intro hq <;> (try simp only [nT, nF, n1, n0] at hq) <;> (have hb := hq) <;> (try simp only [dT, dF, eT, eF] at hb) <;> first | (exfalso; omega) | ((try simp only [hq]); clear hq))) <;> (try simp only [go_sem, qa, qb, qc, qd, qe, qf, qg, qh, qi, qj, qk, ql, qm, qn, qo, qp, qq, qr, qs, reduceIte, reduceCtorEq, es])) | refine Fits.of ?_ ?_ | (refine aL ?_ (fun hp => ?_) <;> ((try simp only [rowSet_fI hp, rowSet_fI2 hp]); (try simp only [rowSet_fB hp]))) | refine aE ?_ fun hp => ?_ | refine aC ?_ fun hp => ?_ | refine And.intro ?_ ?_ | clear hK K | clear hX hY X Y | clear hL L)
        all_goals try omega
        all_goals try simp
    · rw [decide_eq_false ht]
      refine CallX.of tok Tryz.func125 rfl rfl Tryz.ntmps125 Tryz.results125 rfl (by decide) (fun cx hnt hk0 => ?_)
      
      
      repeat' (first | refine AWp.seq fun K hK => ?_ | refine hK _ ?_; clear hK K | refine hX ?_; clear hX hY X Y | refine hY ?_; clear hX hY X Y | refine AWp.block ?_ | refine hL _ _ ?_ | ((first | refine AWp.region tok (by rw [hnt]; rfl) ?_ | refine AWp.cond' fun X Y hX hY => ?_ | refine AWp.skip ?_ | refine AWp.exit ?_ | refine AWp.ret ?_ | refine Fin.auto [] ?_ | refine runS_v [] (cS) ?_ ?_ ?_ ?_ ?_ | refine AWp.draw (id := 1) tok mixed pl_mine_settled0 [0, 8] [0, 2, 4] (by kernel_rfl) (by kernel_rfl) (by rw [hnt]; rfl) ?_ | refine effS_v [] (cS) ?_ ?_ ?_ ?_ ?_ | ((first | apply gR | apply gC | apply gT | apply gE) <;> intro hq <;> (try simp only [nT, nF, n1, n0] at hq) <;> (have hb := hq) <;> (try simp only [dT, dF, eT, eF] at hb) <;> first | (exfalso; omega) | ((try simp only [hq]); clear hq))) <;> (try simp only [go_sem, qa, qb, qc, qd, qe, qf, qg, qh, qi, qj, qk, ql, qm, qn, qo, qp, qq, qr, qs, reduceIte, reduceCtorEq, es])) | refine Fits.of ?_ ?_ | (refine aL ?_ (fun hp => ?_) <;> ((try simp only [rowSet_fI hp, rowSet_fI2 hp]); (try simp only [rowSet_fB hp]))) | refine aE ?_ fun hp => ?_ | refine aC ?_ fun hp => ?_ | refine And.intro ?_ ?_ | clear hK K | clear hX hY X Y | clear hL L)
      all_goals try omega
      all_goals try simp
theorem tell_ok2 (c : Chain) (s : State) (h seq : Int) (hc : c.ok = true) (hs : s.ok = true) : Call Tryz.prog 92 [.c (.ptr 0 0 0 0), proofA s h, I seq] (linkH c 0 1) 8 (.o (BB (c.tellB s seq))) (linkH (c.tell s seq) 0 8) 15 := by
  obtain ⟨q1, q2, q3, q4, q5, q6⟩ := chain_ok hc
  obtain ⟨r1, r2, r3, r4, r5, r6, r7, r8, r9⟩ := state_ok q3
  obtain ⟨u1, u2, u3, u4, u5, u6, u7, u8, u9⟩ := state_ok hs
  have cM := mayTell_ok c s h seq q3 hs
  unfold Chain.tell
  cases hB : c.tellB s seq
  · rw [hB] at cM
    refine CallX.of tok Tryz.func92 rfl rfl Tryz.ntmps92 Tryz.results92 rfl (by decide) (fun cx hnt hk0 => ?_)
    repeat' (first | refine AWp.seq fun K hK => ?_ | refine hK _ ?_; clear hK K | refine hX ?_; clear hX hY X Y | refine hY ?_; clear hX hY X Y | refine AWp.block ?_ | refine hL _ _ ?_ | ((first | refine AWp.region tok (by rw [hnt]; rfl) ?_ | refine AWp.cond' fun X Y hX hY => ?_ | refine AWp.skip ?_ | refine AWp.exit ?_ | refine AWp.ret ?_ | refine Fin.auto [] ?_ | refine runS_c [0, 1, 2, 3, 4, 5, 6, 7] (cM) rfl ?_ ?_ ?_ | ((first | apply gR | apply gC) <;> intro hq <;> (try simp only [nT, nF, n1, n0] at hq) <;> (have hb := hq) <;> (try simp only [dT, dF, eT, eF] at hb) <;> first | (exfalso; omega) | ((try simp only [hq]); clear hq))) <;> (try simp only [go_sem, qa, qb, qc, qd, qe, qf, qg, qh, qi, qj, qk, ql, qm, qn, qo, qp, qq, qr, qs, reduceIte, reduceCtorEq, Bool.false_eq_true, if_false])) | refine Fits.of ?_ ?_ | (refine aL ?_ (fun hp => ?_) <;> ((try simp only [rowSet_fI hp, rowSet_fI2 hp]); (try simp only [rowSet_fB hp]))) | refine aE ?_ fun hp => ?_ | refine aC ?_ fun hp => ?_ | refine And.intro ?_ ?_ | clear hK K | clear hX hY X Y | clear hL L)
  · rw [hB] at cM
    have hm : c.mine seq = true := by
      simp only [Chain.tellB, Bool.and_eq_true] at hB; exact hB.1
    have hi : 1 ≤ seq ∧ seq ≤ c.state.sent.length := by
      simp only [Chain.mine, Bool.and_eq_true, In_iff] at hm; exact hm.1
    have hpk : (c.sentAt seq).ok = true := (sentOk_iff (r7 (seq - 1).toNat (by omega))).1
    have cG := StateGot_yes s seq hs (by omega)
    have es2 : ∀ v : List Bool, Chain.sentAt { c with state := { c.state with live := v } } seq = c.sentAt seq := fun _ => rfl
    have cR := refund_ok { c with state := { c.state with live := c.state.live.set (seq - 1).toNat false } } seq q2 hi r5 r3 hpk
    by_cases hg : s.gotAt seq = 2
    · rw [hg] at cG
      unfold Chain.settle
      rw [decide_eq_true hg]
      refine CallX.of tok Tryz.func92 rfl rfl Tryz.ntmps92 Tryz.results92 rfl (by decide) (fun cx hnt hk0 => ?_)
      repeat' (first | refine AWp.seq fun K hK => ?_ | refine hK _ ?_; clear hK K | refine hX ?_; clear hX hY X Y | refine hY ?_; clear hX hY X Y | refine AWp.block ?_ | refine hL _ _ ?_ | ((first | refine AWp.region tok (by rw [hnt]; rfl) ?_ | refine AWp.cond' fun X Y hX hY => ?_ | refine AWp.skip ?_ | refine AWp.exit ?_ | refine AWp.ret ?_ | refine Fin.auto [] ?_ | refine runS_c [0, 1, 2, 3, 4, 5, 6, 7] (cM) rfl ?_ ?_ ?_ | refine runS_c [] (cG) rfl ?_ ?_ ?_ | refine runS_c [0, 1, 2, 3, 4, 5, 6, 7] (cR) rfl ?_ ?_ ?_ | ((first | apply gR | apply gC) <;> intro hq <;> (try simp only [nT, nF, n1, n0] at hq) <;> (have hb := hq) <;> (try simp only [dT, dF, eT, eF] at hb) <;> first | (exfalso; omega) | ((try simp only [hq]); clear hq))) <;> (try simp only [go_sem, qa, qb, qc, qd, qe, qf, qg, qh, qi, qj, qk, ql, qm, qn, qo, qp, qq, qr, qs, reduceIte, reduceCtorEq, if_true, es2])) | refine Fits.of ?_ ?_ | (refine aL ?_ (fun hp => ?_) <;> ((try simp only [rowSet_fI hp, rowSet_fI2 hp]); (try simp only [rowSet_fB hp]))) | refine aE ?_ fun hp => ?_ | refine aC ?_ fun hp => ?_ | refine And.intro ?_ ?_ | clear hK K | clear hX hY X Y | clear hL L)
      all_goals try omega
    · unfold Chain.settle
      rw [decide_eq_false hg]
      refine CallX.of tok Tryz.func92 rfl rfl Tryz.ntmps92 Tryz.results92 rfl (by decide) (fun cx hnt hk0 => ?_)
      repeat' (first | refine AWp.seq fun K hK => ?_ | refine hK _ ?_; clear hK K | refine hX ?_; clear hX hY X Y | refine hY ?_; clear hX hY X Y | refine AWp.block ?_ | refine hL _ _ ?_ | ((first | refine AWp.region tok (by rw [hnt]; rfl) ?_ | refine AWp.cond' fun X Y hX hY => ?_ | refine AWp.skip ?_ | refine AWp.exit ?_ | refine AWp.ret ?_ | refine Fin.auto [] ?_ | refine runS_c [0, 1, 2, 3, 4, 5, 6, 7] (cM) rfl ?_ ?_ ?_ | refine runS_c [] (cG) rfl ?_ ?_ ?_ | refine runS_c [0, 1, 2, 3, 4, 5, 6, 7] (cR) rfl ?_ ?_ ?_ | ((first | apply gR | apply gC) <;> intro hq <;> (try simp only [nT, nF, n1, n0] at hq) <;> (have hb := hq) <;> (try simp only [dT, dF, eT, eF] at hb) <;> first | (exfalso; omega) | ((try simp only [hq]); clear hq))) <;> (try simp only [go_sem, qa, qb, qc, qd, qe, qf, qg, qh, qi, qj, qk, ql, qm, qn, qo, qp, qq, qr, qs, reduceIte, reduceCtorEq, Bool.false_eq_true, if_false, es2])) | refine Fits.of ?_ ?_ | (refine aL ?_ (fun hp => ?_) <;> ((try simp only [rowSet_fI hp, rowSet_fI2 hp]); (try simp only [rowSet_fB hp]))) | refine aE ?_ fun hp => ?_ | refine aC ?_ fun hp => ?_ | refine And.intro ?_ ?_ | clear hK K | clear hX hY X Y | clear hL L)
      all_goals try omega
theorem late_ok2 (c : Chain) (s : State) (h seq : Int) (hc : c.ok = true) (hs : s.ok = true) : Call Tryz.prog 93 [.c (.ptr 0 0 0 0), proofA s h, I seq] (linkH c 0 1) 8 (.o (BB (c.lateB s h seq))) (linkH (c.late s h seq) 0 8) 15 := by
  obtain ⟨q1, q2, q3, q4, q5, q6⟩ := chain_ok hc
  obtain ⟨r1, r2, r3, r4, r5, r6, r7, r8, r9⟩ := state_ok q3
  have cM := mayLate_ok c s h seq q3 hs
  unfold Chain.late
  cases hB : c.lateB s h seq
  · rw [hB] at cM
    refine CallX.of tok Tryz.func93 rfl rfl Tryz.ntmps93 Tryz.results93 rfl (by decide) (fun cx hnt hk0 => ?_)
    repeat' (first | refine AWp.seq fun K hK => ?_ | refine hK _ ?_; clear hK K | refine hX ?_; clear hX hY X Y | refine hY ?_; clear hX hY X Y | refine AWp.block ?_ | refine hL _ _ ?_ | ((first | refine AWp.region tok (by rw [hnt]; rfl) ?_ | refine AWp.cond' fun X Y hX hY => ?_ | refine AWp.skip ?_ | refine AWp.exit ?_ | refine AWp.ret ?_ | refine Fin.auto [] ?_ | refine runS_c [0, 1, 2, 3, 4, 5, 6, 7] (cM) rfl ?_ ?_ ?_ | ((first | apply gR | apply gC) <;> intro hq <;> (try simp only [nT, nF, n1, n0] at hq) <;> (have hb := hq) <;> (try simp only [dT, dF, eT, eF] at hb) <;> first | (exfalso; omega) | ((try simp only [hq]); clear hq))) <;> (try simp only [go_sem, qa, qb, qc, qd, qe, qf, qg, qh, qi, qj, qk, ql, qm, qn, qo, qp, qq, qr, qs, reduceIte, reduceCtorEq, Bool.false_eq_true, if_false])) | refine Fits.of ?_ ?_ | (refine aL ?_ (fun hp => ?_) <;> ((try simp only [rowSet_fI hp, rowSet_fI2 hp]); (try simp only [rowSet_fB hp]))) | refine aE ?_ fun hp => ?_ | refine aC ?_ fun hp => ?_ | refine And.intro ?_ ?_ | clear hK K | clear hX hY X Y | clear hL L)
  · rw [hB] at cM
    have hm : c.mine seq = true := by
      simp only [Chain.lateB, Bool.and_eq_true] at hB; exact hB.1
    have hi : 1 ≤ seq ∧ seq ≤ c.state.sent.length := by
      simp only [Chain.mine, Bool.and_eq_true, In_iff] at hm; exact hm.1
    have hpk : (c.sentAt seq).ok = true := (sentOk_iff (r7 (seq - 1).toNat (by omega))).1
    have es2 : ∀ v : List Bool, Chain.sentAt { c with state := { c.state with live := v } } seq = c.sentAt seq := fun _ => rfl
    have cR := refund_ok { c with state := { c.state with live := c.state.live.set (seq - 1).toNat false } } seq q2 hi r5 r3 hpk
    unfold Chain.settle
    refine CallX.of tok Tryz.func93 rfl rfl Tryz.ntmps93 Tryz.results93 rfl (by decide) (fun cx hnt hk0 => ?_)
    repeat' (first | refine AWp.seq fun K hK => ?_ | refine hK _ ?_; clear hK K | refine hX ?_; clear hX hY X Y | refine hY ?_; clear hX hY X Y | refine AWp.block ?_ | refine hL _ _ ?_ | ((first | refine AWp.region tok (by rw [hnt]; rfl) ?_ | refine AWp.cond' fun X Y hX hY => ?_ | refine AWp.skip ?_ | refine AWp.exit ?_ | refine AWp.ret ?_ | refine Fin.auto [] ?_ | refine runS_c [0, 1, 2, 3, 4, 5, 6, 7] (cM) rfl ?_ ?_ ?_ | refine runS_c [0, 1, 2, 3, 4, 5, 6, 7] (cR) rfl ?_ ?_ ?_ | ((first | apply gR | apply gC) <;> intro hq <;> (try simp only [nT, nF, n1, n0] at hq) <;> (have hb := hq) <;> (try simp only [dT, dF, eT, eF] at hb) <;> first | (exfalso; omega) | ((try simp only [hq]); clear hq))) <;> (try simp only [go_sem, qa, qb, qc, qd, qe, qf, qg, qh, qi, qj, qk, ql, qm, qn, qo, qp, qq, qr, qs, reduceIte, reduceCtorEq, if_true, es2])) | refine Fits.of ?_ ?_ | (refine aL ?_ (fun hp => ?_) <;> ((try simp only [rowSet_fI hp, rowSet_fI2 hp]); (try simp only [rowSet_fB hp]))) | refine aE ?_ fun hp => ?_ | refine aC ?_ fun hp => ?_ | refine And.intro ?_ ?_ | clear hK K | clear hX hY X Y | clear hL L)
    all_goals try omega
theorem step_ok2 (c : Chain) (s : State) (h n : Int) (hc : c.ok = true) (hs : s.ok = true) : Call Tryz.prog 94 [.c (.ptr 0 0 0 0), proofA s h, I n] (linkH c 0 1) 8 (.o (BB (wayMay c.state s n))) (linkH (c.step s n) 0 8) 15 := by
  obtain ⟨q1, q2, q3, q4, q5, q6⟩ := chain_ok hc
  unfold Chain.step
  cases hB : wayMay c.state s n
  · have cW := WayDo_no c.state s n q3 hs hB
    refine CallX.of tok Tryz.func94 rfl rfl Tryz.ntmps94 Tryz.results94 rfl (by decide) (fun cx hnt hk0 => ?_)
    
    repeat' (first | refine AWp.seq fun K hK => ?_ | refine hK _ ?_; clear hK K | refine hX ?_; clear hX hY X Y | refine hY ?_; clear hX hY X Y | refine AWp.block ?_ | refine hL _ _ ?_ | ((first | refine AWp.region tok (by rw [hnt]; rfl) ?_ | refine AWp.cond' fun X Y hX hY => ?_ | refine AWp.skip ?_ | refine AWp.exit ?_ | refine AWp.ret ?_ | refine Fin.auto [] ?_ | refine runS_v [] (cW) ?_ ?_ ?_ ?_ ?_ | refine AWp.draw (id := 1) tok mixed pl_mine_settled1 [0, 8] [0, 2, 4] (by kernel_rfl) (by kernel_rfl) (by rw [hnt]; rfl) ?_ | refine effS_v [] (cW) ?_ ?_ ?_ ?_ ?_ | ((first | apply gR | apply gC | apply gT | apply gE) <;> intro hq <;> (try simp only [nT, nF, n1, n0] at hq) <;> (have hb := hq) <;> (try simp only [dT, dF, eT, eF] at hb) <;> first | (exfalso; omega) | ((try simp only [hq]); clear hq))) <;> (try simp only [go_sem, qa, qb, qc, qd, qe, qf, qg, qh, qi, qj, qk, ql, qm, qn, qo, qp, qq, qr, qs, reduceIte, reduceCtorEq, State.noneA, Bool.false_eq_true, if_false])) | refine Fits.of ?_ ?_ | (refine aL ?_ (fun hp => ?_) <;> ((try simp only [rowSet_fI hp, rowSet_fI2 hp]); (try simp only [rowSet_fB hp]))) | refine aE ?_ fun hp => ?_ | refine aC ?_ fun hp => ?_ | refine And.intro ?_ ?_ | clear hK K | clear hX hY X Y | clear hL L)
  · have cW := WayDo_yes c.state s n q3 hs hB
    refine CallX.of tok Tryz.func94 rfl rfl Tryz.ntmps94 Tryz.results94 rfl (by decide) (fun cx hnt hk0 => ?_)
    
    repeat' (first | refine AWp.seq fun K hK => ?_ | refine hK _ ?_; clear hK K | refine hX ?_; clear hX hY X Y | refine hY ?_; clear hX hY X Y | refine AWp.block ?_ | refine hL _ _ ?_ | ((first | refine AWp.region tok (by rw [hnt]; rfl) ?_ | refine AWp.cond' fun X Y hX hY => ?_ | refine AWp.skip ?_ | refine AWp.exit ?_ | refine AWp.ret ?_ | refine Fin.auto [] ?_ | refine runS_v [] (cW) ?_ ?_ ?_ ?_ ?_ | refine AWp.draw (id := 1) tok mixed pl_mine_settled1 [0, 8] [0, 2, 4] (by kernel_rfl) (by kernel_rfl) (by rw [hnt]; rfl) ?_ | refine effS_v [] (cW) ?_ ?_ ?_ ?_ ?_ | ((first | apply gR | apply gC | apply gT | apply gE) <;> intro hq <;> (try simp only [nT, nF, n1, n0] at hq) <;> (have hb := hq) <;> (try simp only [dT, dF, eT, eF] at hb) <;> first | (exfalso; omega) | ((try simp only [hq]); clear hq))) <;> (try simp only [go_sem, qa, qb, qc, qd, qe, qf, qg, qh, qi, qj, qk, ql, qm, qn, qo, qp, qq, qr, qs, reduceIte, reduceCtorEq, if_true])) | refine Fits.of ?_ ?_ | (refine aL ?_ (fun hp => ?_) <;> ((try simp only [rowSet_fI hp, rowSet_fI2 hp]); (try simp only [rowSet_fB hp]))) | refine aE ?_ fun hp => ?_ | refine aC ?_ fun hp => ?_ | refine And.intro ?_ ?_ | clear hK K | clear hX hY X Y | clear hL L)
    all_goals try omega
theorem hasB_ok {s : State} {p : Packet} (hs : s.ok = true) (h : s.hasB p = true) : p.ok = true ∧ 1 ≤ p.seq ∧ p.seq ≤ s.sent.length := by
  obtain ⟨u1, u2, u3, u4, u5, u6, u7, u8, u9⟩ := state_ok hs
  simp only [State.hasB, Bool.and_eq_true, In_iff] at h
  obtain ⟨h1, h2, h3⟩ := h
  have := (sentOk_iff (u7 (p.seq - 1).toNat (by omega))).1
  rw [of_decide_eq_true h2] at this
  exact ⟨this, h1⟩
theorem get_ok2 (c : Chain) (s : State) (h : Int) (p : Packet) (hc : c.ok = true) (hs : s.ok = true) : Call Tryz.prog 91 [.c (.ptr 0 0 0 0), proofA s h, p.av] (linkH c 0 1) 8 (.o (BB (c.getB s p))) (linkH (c.get s p) 0 8) 15 := by
  obtain ⟨q1, q2, q3, q4, q5, q6⟩ := chain_ok hc
  obtain ⟨r1, r2, r3, r4, r5, r6, r7, r8, r9⟩ := state_ok q3
  obtain ⟨u1, u2, u3, u4, u5, u6, u7, u8, u9⟩ := state_ok hs
  have cM := mayGet_ok c s h p q3 hs (by omega)
  unfold Chain.get
  cases hB : c.getB s p
  · rw [hB] at cM
    refine CallX.of tok Tryz.func91 rfl rfl Tryz.ntmps91 Tryz.results91 rfl (by decide) (fun cx hnt hk0 => ?_)
    repeat' (first | refine AWp.seq fun K hK => ?_ | refine hK _ ?_; clear hK K | refine hX ?_; clear hX hY X Y | refine hY ?_; clear hX hY X Y | refine AWp.block ?_ | refine hL _ _ ?_ | ((first | refine AWp.region tok (by rw [hnt]; rfl) ?_ | refine AWp.cond' fun X Y hX hY => ?_ | refine AWp.skip ?_ | refine AWp.exit ?_ | refine AWp.ret ?_ | refine Fin.auto [] ?_ | refine runS_c [0, 1, 2, 3, 4, 5, 6, 7] (cM) rfl ?_ ?_ ?_ | refine AWp.draw (id := 3) tok mixed pl_mine_settled2 [] [0, 5] (by kernel_rfl) (by kernel_rfl) (by rw [hnt]; rfl) ?_ | refine AWp.draw (id := 9) tok mixed pl_mine_settled3 [] [0, 5, 7] (by kernel_rfl) (by kernel_rfl) (by rw [hnt]; rfl) ?_ | refine AWp.draw (id := 12) tok mixed pl_mine_settled2 [] [0, 5] (by kernel_rfl) (by kernel_rfl) (by rw [hnt]; rfl) ?_ | refine effS_c [0, 1, 2, 3, 4, 5, 6, 7] (cM) rfl ?_ ?_ ?_ | ((first | apply gR | apply gC | apply gT | apply gE) <;> intro hq <;> (try simp only [nT, nF, n1, n0] at hq) <;> (have hb := hq) <;> (try simp only [dT, dF, eT, eF] at hb) <;> first | (exfalso; omega) | ((try simp only [hq]); clear hq))) <;> (try simp only [go_sem, qa, qb, qc, qd, qe, qf, qg, qh, qi, qj, qk, ql, qm, qn, qo, qp, qq, qr, qs, reduceIte, reduceCtorEq, Bool.false_eq_true, if_false])) | refine Fits.of ?_ ?_ | (refine aL ?_ (fun hp => ?_) <;> ((try simp only [rowSet_fI hp, rowSet_fI2 hp]); (try simp only [rowSet_fB hp]))) | refine aE ?_ fun hp => ?_ | refine aC ?_ fun hp => ?_ | refine And.intro ?_ ?_ | clear hK K | clear hX hY X Y | clear hL L)
  · rw [hB] at cM
    have hh : s.hasB p = true := by
      simp only [Chain.getB, Bool.and_eq_true] at hB; exact hB.2.1
    obtain ⟨hp, hi1, hi2⟩ := hasB_ok hs hh
    obtain ⟨a1, a2, a3, a4, a5, a6, a7⟩ := packet_iff.1 hp
    obtain ⟨b1, b2, b3, b4, b5⟩ := bank_ok q2
    have b6 := parts_len b1
    have b7 := parts_len b2
    have b8 := parts_all b1
    unfold Chain.getD
    by_cases hd : p.dst = 0
    · have hpay : payB c.bank p = false := by simp [payB, hd]
      rw [hpay]
      refine CallX.of tok Tryz.func91 rfl rfl Tryz.ntmps91 Tryz.results91 rfl (by decide) (fun cx hnt hk0 => ?_)
      
      repeat' (first | refine AWp.seq fun K hK => ?_ | refine hK _ ?_; clear hK K | refine hX ?_; clear hX hY X Y | refine hY ?_; clear hX hY X Y | refine AWp.block ?_ | refine hL _ _ ?_ | ((first | refine AWp.region tok (by rw [hnt]; rfl) ?_ | refine AWp.cond' fun X Y hX hY => ?_ | refine AWp.skip ?_ | refine AWp.exit ?_ | refine AWp.ret ?_ | refine Fin.auto [] ?_ | refine runS_c [0, 1, 2, 3, 4, 5, 6, 7] (cM) rfl ?_ ?_ ?_ | refine AWp.draw (id := 3) tok mixed pl_mine_settled2 [0, 8, 9] [0, 5] (by kernel_rfl) (by kernel_rfl) (by rw [hnt]; rfl) ?_ | refine AWp.draw (id := 9) tok mixed pl_mine_settled3 [0, 8, 9] [0, 5, 7] (by kernel_rfl) (by kernel_rfl) (by rw [hnt]; rfl) ?_ | refine AWp.draw (id := 12) tok mixed pl_mine_settled2 [0, 8, 9] [0, 5] (by kernel_rfl) (by kernel_rfl) (by rw [hnt]; rfl) ?_ | refine effS_c [0, 1, 2, 3, 4, 5, 6, 7] (cM) rfl ?_ ?_ ?_ | ((first | apply gR | apply gC | apply gT | apply gE) <;> intro hq <;> (try simp only [nT, nF, n1, n0] at hq) <;> (have hb := hq) <;> (try simp only [dT, dF, eT, eF] at hb) <;> first | (exfalso; omega) | ((try simp only [hq]); clear hq))) <;> (try simp only [go_sem, qa, qb, qc, qd, qe, qf, qg, qh, qi, qj, qk, ql, qm, qn, qo, qp, qq, qr, qs, reduceIte, reduceCtorEq, Bool.false_eq_true, if_false, if_true])) | refine Fits.of ?_ ?_ | (refine aL ?_ (fun hp => ?_) <;> ((try simp only [rowSet_fI hp, rowSet_fI2 hp]); (try simp only [rowSet_fB hp]))) | refine aE ?_ fun hp => ?_ | refine aC ?_ fun hp => ?_ | refine And.intro ?_ ?_ | clear hK K | clear hX hY X Y | clear hL L)
      all_goals try omega
    · have hg : ∀ k, In k 1 2 = true → c.bank.giveB k p.dst p.sum = c.bank.backB k p.dst p.sum := by
        intro k hk
        unfold Bank.giveB
        rw [q2, hk, In_iff.2 (show 1 ≤ p.dst ∧ p.dst ≤ 3 by omega), decide_eq_true (show 0 ≤ p.sum by omega), decide_eq_true (show p.sum ≤ 30 by omega)]
        rfl
      have hpay : payB c.bank p = c.bank.backB (otherK p.kind) p.dst p.sum := by simp [payB, hd]
      rw [hpay]
      rcases (show p.kind = 1 ∨ p.kind = 2 by omega) with hk | hk
      · have ek : otherK p.kind = 2 := by unfold otherK; rw [if_neg (by omega)]
        rw [ek]
        have hg := hg 2 (by decide)
        cases hb0 : c.bank.backB 2 p.dst p.sum
        · rw [hb0] at hg
          refine CallX.of tok Tryz.func91 rfl rfl Tryz.ntmps91 Tryz.results91 rfl (by decide) (fun cx hnt hk0 => ?_)
          
          repeat' (first | refine AWp.seq fun K hK => ?_ | refine hK _ ?_; clear hK K | refine hX ?_; clear hX hY X Y | refine hY ?_; clear hX hY X Y | refine AWp.block ?_ | refine hL _ _ ?_ | ((first | refine AWp.region tok (by rw [hnt]; rfl) ?_ | refine AWp.cond' fun X Y hX hY => ?_ | refine AWp.skip ?_ | refine AWp.exit ?_ | refine AWp.ret ?_ | refine Fin.auto [] ?_ | refine runS_c [0, 1, 2, 3, 4, 5, 6, 7] (cM) rfl ?_ ?_ ?_ | refine runS_v [] (iBankBack_no c.bank _ _ _ (by omega) (by omega) (by omega) hg) ?_ ?_ ?_ ?_ ?_ | refine AWp.draw (id := 3) tok mixed pl_mine_settled2 [0, 8, 9] [0, 5] (by kernel_rfl) (by kernel_rfl) (by rw [hnt]; rfl) ?_ | refine AWp.draw (id := 9) tok mixed pl_mine_settled3 [0, 8, 9] [0, 5, 7] (by kernel_rfl) (by kernel_rfl) (by rw [hnt]; rfl) ?_ | refine AWp.draw (id := 12) tok mixed pl_mine_settled2 [0, 8, 9] [0, 5] (by kernel_rfl) (by kernel_rfl) (by rw [hnt]; rfl) ?_ | refine effS_c [0, 1, 2, 3, 4, 5, 6, 7] (cM) rfl ?_ ?_ ?_ | refine effS_v [] (iBankBack_no c.bank _ _ _ (by omega) (by omega) (by omega) hg) ?_ ?_ ?_ ?_ ?_ | ((first | apply gR | apply gC | apply gT | apply gE) <;> intro hq <;> (try simp only [nT, nF, n1, n0] at hq) <;> (have hb := hq) <;> (try simp only [dT, dF, eT, eF] at hb) <;> first | (exfalso; omega) | ((try simp only [hq]); clear hq))) <;> (try simp only [go_sem, qa, qb, qc, qd, qe, qf, qg, qh, qi, qj, qk, ql, qm, qn, qo, qp, qq, qr, qs, reduceIte, reduceCtorEq, Bool.false_eq_true, if_false])) | refine Fits.of ?_ ?_ | (refine aL ?_ (fun hp => ?_) <;> ((try simp only [rowSet_fI hp, rowSet_fI2 hp]); (try simp only [rowSet_fB hp]))) | refine aE ?_ fun hp => ?_ | refine aC ?_ fun hp => ?_ | refine And.intro ?_ ?_ | clear hK K | clear hX hY X Y | clear hL L)
          all_goals try omega
        · rw [hb0] at hg
          refine CallX.of tok Tryz.func91 rfl rfl Tryz.ntmps91 Tryz.results91 rfl (by decide) (fun cx hnt hk0 => ?_)
          
          repeat' (first | refine AWp.seq fun K hK => ?_ | refine hK _ ?_; clear hK K | refine hX ?_; clear hX hY X Y | refine hY ?_; clear hX hY X Y | refine AWp.block ?_ | refine hL _ _ ?_ | ((first | refine AWp.region tok (by rw [hnt]; rfl) ?_ | refine AWp.cond' fun X Y hX hY => ?_ | refine AWp.skip ?_ | refine AWp.exit ?_ | refine AWp.ret ?_ | refine Fin.auto [] ?_ | refine runS_c [0, 1, 2, 3, 4, 5, 6, 7] (cM) rfl ?_ ?_ ?_ | refine runS_v [] (iBankBack_yes c.bank _ _ _ (by omega) (by omega) (by omega) hg) ?_ ?_ ?_ ?_ ?_ | refine AWp.draw (id := 3) tok mixed pl_mine_settled2 [0, 8, 9] [0, 5] (by kernel_rfl) (by kernel_rfl) (by rw [hnt]; rfl) ?_ | refine AWp.draw (id := 9) tok mixed pl_mine_settled3 [0, 8, 9] [0, 5, 7] (by kernel_rfl) (by kernel_rfl) (by rw [hnt]; rfl) ?_ | refine AWp.draw (id := 12) tok mixed pl_mine_settled2 [0, 8, 9] [0, 5] (by kernel_rfl) (by kernel_rfl) (by rw [hnt]; rfl) ?_ | refine effS_c [0, 1, 2, 3, 4, 5, 6, 7] (cM) rfl ?_ ?_ ?_ | refine effS_v [] (iBankBack_yes c.bank _ _ _ (by omega) (by omega) (by omega) hg) ?_ ?_ ?_ ?_ ?_ | ((first | apply gR | apply gC | apply gT | apply gE) <;> intro hq <;> (try simp only [nT, nF, n1, n0] at hq) <;> (have hb := hq) <;> (try simp only [dT, dF, eT, eF] at hb) <;> first | (exfalso; omega) | ((try simp only [hq]); clear hq))) <;> (try simp only [go_sem, qa, qb, qc, qd, qe, qf, qg, qh, qi, qj, qk, ql, qm, qn, qo, qp, qq, qr, qs, reduceIte, reduceCtorEq, if_true, List.set_set])) | refine Fits.of ?_ ?_ | (refine aL ?_ (fun hp => ?_) <;> ((try simp only [rowSet_fI hp, rowSet_fI2 hp]); (try simp only [rowSet_fB hp]))) | refine aE ?_ fun hp => ?_ | refine aC ?_ fun hp => ?_ | refine And.intro ?_ ?_ | clear hK K | clear hX hY X Y | clear hL L)
          all_goals try omega
      · have ek : otherK p.kind = 1 := by unfold otherK; rw [if_pos hk]
        rw [ek]
        have hg := hg 1 (by decide)
        cases hb0 : c.bank.backB 1 p.dst p.sum
        · rw [hb0] at hg
          refine CallX.of tok Tryz.func91 rfl rfl Tryz.ntmps91 Tryz.results91 rfl (by decide) (fun cx hnt hk0 => ?_)
          
          repeat' (first | refine AWp.seq fun K hK => ?_ | refine hK _ ?_; clear hK K | refine hX ?_; clear hX hY X Y | refine hY ?_; clear hX hY X Y | refine AWp.block ?_ | refine hL _ _ ?_ | ((first | refine AWp.region tok (by rw [hnt]; rfl) ?_ | refine AWp.cond' fun X Y hX hY => ?_ | refine AWp.skip ?_ | refine AWp.exit ?_ | refine AWp.ret ?_ | refine Fin.auto [] ?_ | refine runS_c [0, 1, 2, 3, 4, 5, 6, 7] (cM) rfl ?_ ?_ ?_ | refine runS_v [] (iBankBack_no c.bank _ _ _ (by omega) (by omega) (by omega) hg) ?_ ?_ ?_ ?_ ?_ | refine AWp.draw (id := 3) tok mixed pl_mine_settled2 [0, 8, 9] [0, 5] (by kernel_rfl) (by kernel_rfl) (by rw [hnt]; rfl) ?_ | refine AWp.draw (id := 9) tok mixed pl_mine_settled3 [0, 8, 9] [0, 5, 7] (by kernel_rfl) (by kernel_rfl) (by rw [hnt]; rfl) ?_ | refine AWp.draw (id := 12) tok mixed pl_mine_settled2 [0, 8, 9] [0, 5] (by kernel_rfl) (by kernel_rfl) (by rw [hnt]; rfl) ?_ | refine effS_c [0, 1, 2, 3, 4, 5, 6, 7] (cM) rfl ?_ ?_ ?_ | refine effS_v [] (iBankBack_no c.bank _ _ _ (by omega) (by omega) (by omega) hg) ?_ ?_ ?_ ?_ ?_ | ((first | apply gR | apply gC | apply gT | apply gE) <;> intro hq <;> (try simp only [nT, nF, n1, n0] at hq) <;> (have hb := hq) <;> (try simp only [dT, dF, eT, eF] at hb) <;> first | (exfalso; omega) | ((try simp only [hq]); clear hq))) <;> (try simp only [go_sem, qa, qb, qc, qd, qe, qf, qg, qh, qi, qj, qk, ql, qm, qn, qo, qp, qq, qr, qs, reduceIte, reduceCtorEq, Bool.false_eq_true, if_false])) | refine Fits.of ?_ ?_ | (refine aL ?_ (fun hp => ?_) <;> ((try simp only [rowSet_fI hp, rowSet_fI2 hp]); (try simp only [rowSet_fB hp]))) | refine aE ?_ fun hp => ?_ | refine aC ?_ fun hp => ?_ | refine And.intro ?_ ?_ | clear hK K | clear hX hY X Y | clear hL L)
          all_goals try omega
        · rw [hb0] at hg
          refine CallX.of tok Tryz.func91 rfl rfl Tryz.ntmps91 Tryz.results91 rfl (by decide) (fun cx hnt hk0 => ?_)
          
          repeat' (first | refine AWp.seq fun K hK => ?_ | refine hK _ ?_; clear hK K | refine hX ?_; clear hX hY X Y | refine hY ?_; clear hX hY X Y | refine AWp.block ?_ | refine hL _ _ ?_ | ((first | refine AWp.region tok (by rw [hnt]; rfl) ?_ | refine AWp.cond' fun X Y hX hY => ?_ | refine AWp.skip ?_ | refine AWp.exit ?_ | refine AWp.ret ?_ | refine Fin.auto [] ?_ | refine runS_c [0, 1, 2, 3, 4, 5, 6, 7] (cM) rfl ?_ ?_ ?_ | refine runS_v [] (iBankBack_yes c.bank _ _ _ (by omega) (by omega) (by omega) hg) ?_ ?_ ?_ ?_ ?_ | refine AWp.draw (id := 3) tok mixed pl_mine_settled2 [0, 8, 9] [0, 5] (by kernel_rfl) (by kernel_rfl) (by rw [hnt]; rfl) ?_ | refine AWp.draw (id := 9) tok mixed pl_mine_settled3 [0, 8, 9] [0, 5, 7] (by kernel_rfl) (by kernel_rfl) (by rw [hnt]; rfl) ?_ | refine AWp.draw (id := 12) tok mixed pl_mine_settled2 [0, 8, 9] [0, 5] (by kernel_rfl) (by kernel_rfl) (by rw [hnt]; rfl) ?_ | refine effS_c [0, 1, 2, 3, 4, 5, 6, 7] (cM) rfl ?_ ?_ ?_ | refine effS_v [] (iBankBack_yes c.bank _ _ _ (by omega) (by omega) (by omega) hg) ?_ ?_ ?_ ?_ ?_ | ((first | apply gR | apply gC | apply gT | apply gE) <;> intro hq <;> (try simp only [nT, nF, n1, n0] at hq) <;> (have hb := hq) <;> (try simp only [dT, dF, eT, eF] at hb) <;> first | (exfalso; omega) | ((try simp only [hq]); clear hq))) <;> (try simp only [go_sem, qa, qb, qc, qd, qe, qf, qg, qh, qi, qj, qk, ql, qm, qn, qo, qp, qq, qr, qs, reduceIte, reduceCtorEq, if_true, List.set_set])) | refine Fits.of ?_ ?_ | (refine aL ?_ (fun hp => ?_) <;> ((try simp only [rowSet_fI hp, rowSet_fI2 hp]); (try simp only [rowSet_fB hp]))) | refine aE ?_ fun hp => ?_ | refine aC ?_ fun hp => ?_ | refine And.intro ?_ ?_ | clear hK K | clear hX hY X Y | clear hL L)
          all_goals try omega
end Go.Hw
