/- What is proved here: parts W56 of the walk of the law and of its plain side; no condition but those that each theorem states. -/
import Derived.Test.YtcbceacjhmblnaaGreatE8
import Derived.Test.YtcbceacjhmblnaaGreatE2
/- What is proved: what a run does with an event on chain 1. -/
set_option linter.all false
set_option maxRecDepth 100000
set_option maxHeartbeats 8000000
namespace Go.Hw
open Go.Proofs
open Nat renaming reduceDiv → qa, reduceMod → qb, reduceAdd → qc, reduceMul → qd, reduceSub → qe, reduceLeDiff → qf, reduceBEq → qg, reduceEqDiff → qh, reduceBeqDiff → qi, reduceLT → qj
open Int renaming reduceToNat → qk, reduceAdd → ql, reduceSub → qm, reduceNeg → qn, reduceLT → qo, reduceLE → qp, reduceEq → qq, reduceBEq → qr, reduceBNe → qs
open Go.Hw renaming runG_split → gR, condG_split → gC, takG_split → gT, effG_split → gE
def pl_do1_block0 : Plan := (.tak 0 (.tak 1 (.tak 2 (.tak 3 (.tak 4 (.tak 5 (.tak 6 (.tak 7 (.tak 8 (.tak 9 (.tak 10 (.tak 11 (.tak 12 (.tak 13 (.tak 14 (.tak 15 (.all (.cons 16 (.tak 17 (.tak 18 (.tak 19 (.all (.cons 20 (.all (.cons 21 (.tak 22 .done) .nil)) .nil))))) (.cons 20 (.all (.cons 16 (.tak 17 (.tak 18 (.tak 19 (.all (.cons 21 (.tak 22 .done) .nil))))) .nil)) .nil)))))))))))))))))))
attribute [go_sem] pl_do1_block0
theorem do1_block (a b : Chain) (e : Event) (ok1 : wOk [a, b] = true) (hch : e.chain = 1) (hk : e.kind = 1) : Call Tryz.prog 38 [.c (.ptr 0 0 0 0), e.av] (pairH ⟨a, b⟩ 3 10) 17 (.tup []) (pairH ⟨a.block, b⟩ 17 24) 31 := by
  obtain ⟨p1, p2, p3, p4, p5, p6⟩ := wOk_iff.1 ok1
  obtain ⟨q1, q2, q3, q4, q5, q6⟩ := chain_ok p1
  obtain ⟨u1, u2, u3, u4, u5, u6⟩ := chain_ok p2
  have cE := chainOk_ok e.chain
  rw [show In e.chain 1 2 = true from by rw [hch]; decide] at cE
  · refine CallX.of tok Tryz.func38 rfl rfl Tryz.ntmps38 Tryz.results38 rfl (by decide) (fun cx hnt hk0 => ?_)
    
    repeat' (first | refine AWp.seq fun K hK => ?_ | refine hK _ ?_; clear hK K | refine hX ?_; clear hX hY X Y | refine hY ?_; clear hX hY X Y | refine AWp.block ?_ | refine hL _ _ ?_ | ((first | refine AWp.region tok (by rw [hnt]; rfl) ?_ | refine AWp.cond' fun X Y hX hY => ?_ | refine AWp.skip ?_ | refine AWp.exit ?_ | refine AWp.ret ?_ | refine Fin.auto [] ?_ | refine runS_c [] (cE) rfl ?_ ?_ ?_ | refine runS_c [0, 1, 2] (ends_1 e.chain hch) rfl ?_ ?_ ?_ | refine runS_c [1, 3, 4, 5, 6, 7, 8, 9] (iblock_ok a q3 (by omega)) rfl ?_ ?_ ?_ | refine AWp.draw (id := 11) tok mixed pl_do1_block0 [1,17] [3, 4] (by kernel_rfl) (by kernel_rfl) (by rw [hnt]; rfl) ?_ | refine effS_c [] (cE) rfl ?_ ?_ ?_ | refine effS_c [0, 1, 2] (ends_1 e.chain hch) rfl ?_ ?_ ?_ | refine effS_c [1, 3, 4, 5, 6, 7, 8, 9] (iblock_ok a q3 (by omega)) rfl ?_ ?_ ?_ | ((first | apply gR | apply gC | apply gT | apply gE) <;> intro hq <;> (try simp only [nT, nF, n1, n0] at hq) <;> (have hb := hq) <;> (try simp only [dT, dF, eT, eF] at hb) <;> first | (exfalso; omega) | ((try simp only [hq]); clear hq))) <;> (try simp only [go_sem, qa, qb, qc, qd, qe, qf, qg, qh, qi, qj, qk, ql, qm, qn, qo, qp, qq, qr, qs, reduceIte, reduceCtorEq])) | refine Fits.of ?_ ?_ | (refine aL ?_ (fun hp => ?_) <;> ((try simp only [rowSet_fI hp, rowSet_fI2 hp]); (try simp only [rowSet_fB hp]))) | refine aE ?_ fun hp => ?_ | refine aC ?_ fun hp => ?_ | refine And.intro ?_ ?_ | clear hK K | clear hX hY X Y | clear hL L)
    all_goals try omega

theorem do1_know (a b : Chain) (e : Event) (ok1 : wOk [a, b] = true) (hch : e.chain = 1) (hk : e.kind = 2) : Call Tryz.prog 38 [.c (.ptr 0 0 0 0), e.av] (pairH ⟨a, b⟩ 3 10) 17 (.tup []) (pairH ⟨(a.know b e.height), b⟩ 17 24) 31 := by
  obtain ⟨p1, p2, p3, p4, p5, p6⟩ := wOk_iff.1 ok1
  obtain ⟨q1, q2, q3, q4, q5, q6⟩ := chain_ok p1
  obtain ⟨u1, u2, u3, u4, u5, u6⟩ := chain_ok p2
  have cE := chainOk_ok e.chain
  rw [show In e.chain 1 2 = true from by rw [hch]; decide] at cE
  · refine CallX.of tok Tryz.func38 rfl rfl Tryz.ntmps38 Tryz.results38 rfl (by decide) (fun cx hnt hk0 => ?_)
    
    repeat' (first | refine AWp.seq fun K hK => ?_ | refine hK _ ?_; clear hK K | refine hX ?_; clear hX hY X Y | refine hY ?_; clear hX hY X Y | refine AWp.block ?_ | refine hL _ _ ?_ | ((first | refine AWp.region tok (by rw [hnt]; rfl) ?_ | refine AWp.cond' fun X Y hX hY => ?_ | refine AWp.skip ?_ | refine AWp.exit ?_ | refine AWp.ret ?_ | refine Fin.auto [] ?_ | refine runS_c [] (cE) rfl ?_ ?_ ?_ | refine runS_c [0, 1, 2] (ends_1 e.chain hch) rfl ?_ ?_ ?_ | refine runS_c [1, 3, 4, 5, 6, 7, 8, 9, 2, 10, 11, 12, 13, 14, 15, 16] (iknow_ok a b e.height p1 (by omega)) rfl ?_ ?_ ?_ | refine AWp.draw (id := 11) tok mixed pl_do1_block0 [1,17] [3, 4] (by kernel_rfl) (by kernel_rfl) (by rw [hnt]; rfl) ?_ | refine effS_c [] (cE) rfl ?_ ?_ ?_ | refine effS_c [0, 1, 2] (ends_1 e.chain hch) rfl ?_ ?_ ?_ | refine effS_c [1, 3, 4, 5, 6, 7, 8, 9, 2, 10, 11, 12, 13, 14, 15, 16] (iknow_ok a b e.height p1 (by omega)) rfl ?_ ?_ ?_ | ((first | apply gR | apply gC | apply gT | apply gE) <;> intro hq <;> (try simp only [nT, nF, n1, n0] at hq) <;> (have hb := hq) <;> (try simp only [dT, dF, eT, eF] at hb) <;> first | (exfalso; omega) | ((try simp only [hq]); clear hq))) <;> (try simp only [go_sem, qa, qb, qc, qd, qe, qf, qg, qh, qi, qj, qk, ql, qm, qn, qo, qp, qq, qr, qs, reduceIte, reduceCtorEq])) | refine Fits.of ?_ ?_ | (refine aL ?_ (fun hp => ?_) <;> ((try simp only [rowSet_fI hp, rowSet_fI2 hp]); (try simp only [rowSet_fB hp]))) | refine aE ?_ fun hp => ?_ | refine aC ?_ fun hp => ?_ | refine And.intro ?_ ?_ | clear hK K | clear hX hY X Y | clear hL L)
    all_goals try omega

theorem do1_send (a b : Chain) (e : Event) (ok1 : wOk [a, b] = true) (hch : e.chain = 1) (hk : e.kind = 3) : Call Tryz.prog 38 [.c (.ptr 0 0 0 0), e.av] (pairH ⟨a, b⟩ 3 10) 17 (.tup []) (pairH ⟨(a.send e.packet.kind e.packet.src e.packet.dst e.packet.sum e.packet.till), b⟩ 17 24) 31 := by
  obtain ⟨p1, p2, p3, p4, p5, p6⟩ := wOk_iff.1 ok1
  obtain ⟨q1, q2, q3, q4, q5, q6⟩ := chain_ok p1
  obtain ⟨u1, u2, u3, u4, u5, u6⟩ := chain_ok p2
  have cE := chainOk_ok e.chain
  rw [show In e.chain 1 2 = true from by rw [hch]; decide] at cE
  · refine CallX.of tok Tryz.func38 rfl rfl Tryz.ntmps38 Tryz.results38 rfl (by decide) (fun cx hnt hk0 => ?_)
    
    repeat' (first | refine AWp.seq fun K hK => ?_ | refine hK _ ?_; clear hK K | refine hX ?_; clear hX hY X Y | refine hY ?_; clear hX hY X Y | refine AWp.block ?_ | refine hL _ _ ?_ | ((first | refine AWp.region tok (by rw [hnt]; rfl) ?_ | refine AWp.cond' fun X Y hX hY => ?_ | refine AWp.skip ?_ | refine AWp.exit ?_ | refine AWp.ret ?_ | refine Fin.auto [] ?_ | refine runS_c [] (cE) rfl ?_ ?_ ?_ | refine runS_c [0, 1, 2] (ends_1 e.chain hch) rfl ?_ ?_ ?_ | refine runS_c [1, 3, 4, 5, 6, 7, 8, 9] (isend_ok a e.packet.kind e.packet.src e.packet.dst e.packet.sum e.packet.till p1) rfl ?_ ?_ ?_ | refine AWp.draw (id := 11) tok mixed pl_do1_block0 [1,17] [3, 4] (by kernel_rfl) (by kernel_rfl) (by rw [hnt]; rfl) ?_ | refine effS_c [] (cE) rfl ?_ ?_ ?_ | refine effS_c [0, 1, 2] (ends_1 e.chain hch) rfl ?_ ?_ ?_ | refine effS_c [1, 3, 4, 5, 6, 7, 8, 9] (isend_ok a e.packet.kind e.packet.src e.packet.dst e.packet.sum e.packet.till p1) rfl ?_ ?_ ?_ | ((first | apply gR | apply gC | apply gT | apply gE) <;> intro hq <;> (try simp only [nT, nF, n1, n0] at hq) <;> (have hb := hq) <;> (try simp only [dT, dF, eT, eF] at hb) <;> first | (exfalso; omega) | ((try simp only [hq]); clear hq))) <;> (try simp only [go_sem, qa, qb, qc, qd, qe, qf, qg, qh, qi, qj, qk, ql, qm, qn, qo, qp, qq, qr, qs, reduceIte, reduceCtorEq])) | refine Fits.of ?_ ?_ | (refine aL ?_ (fun hp => ?_) <;> ((try simp only [rowSet_fI hp, rowSet_fI2 hp]); (try simp only [rowSet_fB hp]))) | refine aE ?_ fun hp => ?_ | refine aC ?_ fun hp => ?_ | refine And.intro ?_ ?_ | clear hK K | clear hX hY X Y | clear hL L)
    all_goals try omega

theorem do1_move (a b : Chain) (e : Event) (ok1 : wOk [a, b] = true) (hch : e.chain = 1) (hk : e.kind = 8) : Call Tryz.prog 38 [.c (.ptr 0 0 0 0), e.av] (pairH ⟨a, b⟩ 3 10) 17 (.tup []) (pairH ⟨(a.move e.packet.kind e.packet.src e.packet.dst e.packet.sum), b⟩ 17 24) 31 := by
  obtain ⟨p1, p2, p3, p4, p5, p6⟩ := wOk_iff.1 ok1
  obtain ⟨q1, q2, q3, q4, q5, q6⟩ := chain_ok p1
  obtain ⟨u1, u2, u3, u4, u5, u6⟩ := chain_ok p2
  have cE := chainOk_ok e.chain
  rw [show In e.chain 1 2 = true from by rw [hch]; decide] at cE
  obtain ⟨b1, b2, b3, b4, b5⟩ := bank_ok q2
  have b6 := parts_len b1
  have b7 := parts_len b2
  have b8 := parts_all b1
  unfold Chain.move
  cases hB : a.bank.moveB e.packet.kind e.packet.src e.packet.dst e.packet.sum
  · refine CallX.of tok Tryz.func38 rfl rfl Tryz.ntmps38 Tryz.results38 rfl (by decide) (fun cx hnt hk0 => ?_)
    
    repeat' (first | refine AWp.seq fun K hK => ?_ | refine hK _ ?_; clear hK K | refine hX ?_; clear hX hY X Y | refine hY ?_; clear hX hY X Y | refine AWp.block ?_ | refine hL _ _ ?_ | ((first | refine AWp.region tok (by rw [hnt]; rfl) ?_ | refine AWp.cond' fun X Y hX hY => ?_ | refine AWp.skip ?_ | refine AWp.exit ?_ | refine AWp.ret ?_ | refine Fin.auto [] ?_ | refine runS_c [] (cE) rfl ?_ ?_ ?_ | refine runS_c [0, 1, 2] (ends_1 e.chain hch) rfl ?_ ?_ ?_ | refine runS_v [] (iBankMove_no a.bank _ _ _ _ (by omega) (by omega) (by omega) hB) ?_ ?_ ?_ ?_ ?_ | refine AWp.draw (id := 11) tok mixed pl_do1_block0 [1,17] [3, 4] (by kernel_rfl) (by kernel_rfl) (by rw [hnt]; rfl) ?_ | refine effS_c [] (cE) rfl ?_ ?_ ?_ | refine effS_c [0, 1, 2] (ends_1 e.chain hch) rfl ?_ ?_ ?_ | refine effS_v [] (iBankMove_no a.bank _ _ _ _ (by omega) (by omega) (by omega) hB) ?_ ?_ ?_ ?_ ?_ | ((first | apply gR | apply gC | apply gT | apply gE) <;> intro hq <;> (try simp only [nT, nF, n1, n0] at hq) <;> (have hb := hq) <;> (try simp only [dT, dF, eT, eF] at hb) <;> first | (exfalso; omega) | ((try simp only [hq]); clear hq))) <;> (try simp only [go_sem, qa, qb, qc, qd, qe, qf, qg, qh, qi, qj, qk, ql, qm, qn, qo, qp, qq, qr, qs, reduceIte, reduceCtorEq, Bool.false_eq_true, if_false])) | refine Fits.of ?_ ?_ | (refine aL ?_ (fun hp => ?_) <;> ((try simp only [rowSet_fI hp, rowSet_fI2 hp]); (try simp only [rowSet_fB hp]))) | refine aE ?_ fun hp => ?_ | refine aC ?_ fun hp => ?_ | refine And.intro ?_ ?_ | clear hK K | clear hX hY X Y | clear hL L)
    all_goals try omega
  · refine CallX.of tok Tryz.func38 rfl rfl Tryz.ntmps38 Tryz.results38 rfl (by decide) (fun cx hnt hk0 => ?_)
    
    repeat' (first | refine AWp.seq fun K hK => ?_ | refine hK _ ?_; clear hK K | refine hX ?_; clear hX hY X Y | refine hY ?_; clear hX hY X Y | refine AWp.block ?_ | refine hL _ _ ?_ | ((first | refine AWp.region tok (by rw [hnt]; rfl) ?_ | refine AWp.cond' fun X Y hX hY => ?_ | refine AWp.skip ?_ | refine AWp.exit ?_ | refine AWp.ret ?_ | refine Fin.auto [] ?_ | refine runS_c [] (cE) rfl ?_ ?_ ?_ | refine runS_c [0, 1, 2] (ends_1 e.chain hch) rfl ?_ ?_ ?_ | refine runS_v [] (iBankMove_yes a.bank _ _ _ _ (by omega) (by omega) (by omega) hB) ?_ ?_ ?_ ?_ ?_ | refine AWp.draw (id := 11) tok mixed pl_do1_block0 [1,17] [3, 4] (by kernel_rfl) (by kernel_rfl) (by rw [hnt]; rfl) ?_ | refine effS_c [] (cE) rfl ?_ ?_ ?_ | refine effS_c [0, 1, 2] (ends_1 e.chain hch) rfl ?_ ?_ ?_ | refine effS_v [] (iBankMove_yes a.bank _ _ _ _ (by omega) (by omega) (by omega) hB) ?_ ?_ ?_ ?_ ?_ | ((first | apply gR | apply gC | apply gT | apply gE) <;> intro hq <;> (try simp only [nT, nF, n1, n0] at hq) <;> (have hb := hq) <;> (try simp only [dT, dF, eT, eF] at hb) <;> first | (exfalso; omega) | ((try simp only [hq]); clear hq))) <;> (try simp only [go_sem, qa, qb, qc, qd, qe, qf, qg, qh, qi, qj, qk, ql, qm, qn, qo, qp, qq, qr, qs, reduceIte, reduceCtorEq, if_true])) | refine Fits.of ?_ ?_ | (refine aL ?_ (fun hp => ?_) <;> ((try simp only [rowSet_fI hp, rowSet_fI2 hp]); (try simp only [rowSet_fB hp]))) | refine aE ?_ fun hp => ?_ | refine aC ?_ fun hp => ?_ | refine And.intro ?_ ?_ | clear hK K | clear hX hY X Y | clear hL L)
    all_goals try omega

theorem do1_none (a b : Chain) (e : Event) (ok1 : wOk [a, b] = true) (hch : e.chain = 1) (hk : e.kind < 1 ∨ 8 < e.kind) : Call Tryz.prog 38 [.c (.ptr 0 0 0 0), e.av] (pairH ⟨a, b⟩ 3 10) 17 (.tup []) (pairH ⟨a, b⟩ 17 24) 31 := by
  obtain ⟨p1, p2, p3, p4, p5, p6⟩ := wOk_iff.1 ok1
  obtain ⟨q1, q2, q3, q4, q5, q6⟩ := chain_ok p1
  obtain ⟨u1, u2, u3, u4, u5, u6⟩ := chain_ok p2
  have cE := chainOk_ok e.chain
  rw [show In e.chain 1 2 = true from by rw [hch]; decide] at cE
  · refine CallX.of tok Tryz.func38 rfl rfl Tryz.ntmps38 Tryz.results38 rfl (by decide) (fun cx hnt hk0 => ?_)
    
    repeat' (first | refine AWp.seq fun K hK => ?_ | refine hK _ ?_; clear hK K | refine hX ?_; clear hX hY X Y | refine hY ?_; clear hX hY X Y | refine AWp.block ?_ | refine hL _ _ ?_ | ((first | refine AWp.region tok (by rw [hnt]; rfl) ?_ | refine AWp.cond' fun X Y hX hY => ?_ | refine AWp.skip ?_ | refine AWp.exit ?_ | refine AWp.ret ?_ | refine Fin.auto [] ?_ | refine runS_c [] (cE) rfl ?_ ?_ ?_ | refine runS_c [0, 1, 2] (ends_1 e.chain hch) rfl ?_ ?_ ?_ | refine runS_c [] (cE) rfl ?_ ?_ ?_ | refine AWp.draw (id := 11) tok mixed pl_do1_block0 [1,17] [3, 4] (by kernel_rfl) (by kernel_rfl) (by rw [hnt]; rfl) ?_ | refine effS_c [] (cE) rfl ?_ ?_ ?_ | refine effS_c [0, 1, 2] (ends_1 e.chain hch) rfl ?_ ?_ ?_ | refine effS_c [] (cE) rfl ?_ ?_ ?_ | ((first | apply gR | apply gC | apply gT | apply gE) <;> intro hq <;> (try simp only [nT, nF, n1, n0] at hq) <;> (have hb := hq) <;> (try simp only [dT, dF, eT, eF] at hb) <;> first | (exfalso; omega) | ((try simp only [hq]); clear hq))) <;> (try simp only [go_sem, qa, qb, qc, qd, qe, qf, qg, qh, qi, qj, qk, ql, qm, qn, qo, qp, qq, qr, qs, reduceIte, reduceCtorEq])) | refine Fits.of ?_ ?_ | (refine aL ?_ (fun hp => ?_) <;> ((try simp only [rowSet_fI hp, rowSet_fI2 hp]); (try simp only [rowSet_fB hp]))) | refine aE ?_ fun hp => ?_ | refine aC ?_ fun hp => ?_ | refine And.intro ?_ ?_ | clear hK K | clear hX hY X Y | clear hL L)
    all_goals try omega

theorem do1_new (a b : Chain) (e : Event) (ok1 : wOk [a, b] = true) (hch : e.chain = 1) (hk : e.kind = 7) (hn : e.n = 1 ∨ e.n = 5) : Call Tryz.prog 38 [.c (.ptr 0 0 0 0), e.av] (pairH ⟨a, b⟩ 3 10) 17 (.tup []) (pairH ⟨(a.relayed State.new 0 e), b⟩ 17 24) 31 := by
  obtain ⟨p1, p2, p3, p4, p5, p6⟩ := wOk_iff.1 ok1
  obtain ⟨q1, q2, q3, q4, q5, q6⟩ := chain_ok p1
  obtain ⟨u1, u2, u3, u4, u5, u6⟩ := chain_ok p2
  have cE := chainOk_ok e.chain
  rw [show In e.chain 1 2 = true from by rw [hch]; decide] at cE
  · refine CallX.of tok Tryz.func38 rfl rfl Tryz.ntmps38 Tryz.results38 rfl (by decide) (fun cx hnt hk0 => ?_)
    
    repeat' (first | refine AWp.seq fun K hK => ?_ | refine hK _ ?_; clear hK K | refine hX ?_; clear hX hY X Y | refine hY ?_; clear hX hY X Y | refine AWp.block ?_ | refine hL _ _ ?_ | ((first | refine AWp.region tok (by rw [hnt]; rfl) ?_ | refine AWp.cond' fun X Y hX hY => ?_ | refine AWp.skip ?_ | refine AWp.exit ?_ | refine AWp.ret ?_ | refine Fin.auto [] ?_ | refine runS_c [] (cE) rfl ?_ ?_ ?_ | refine runS_c [0, 1, 2] (ends_1 e.chain hch) rfl ?_ ?_ ?_ | refine runS_c [1, 3, 4, 5, 6, 7, 8, 9, 2, 10, 11, 12, 13, 14, 15, 16] (proofFor_new a b e hk hn) rfl ?_ ?_ ?_ | refine runS_c [1, 3, 4, 5, 6, 7, 8, 9] (relay_ok a State.new 0 e p1 (by decide)) rfl ?_ ?_ ?_ | refine AWp.draw (id := 11) tok mixed pl_do1_block0 [1,17] [3, 4] (by kernel_rfl) (by kernel_rfl) (by rw [hnt]; rfl) ?_ | refine effS_c [] (cE) rfl ?_ ?_ ?_ | refine effS_c [0, 1, 2] (ends_1 e.chain hch) rfl ?_ ?_ ?_ | refine effS_c [1, 3, 4, 5, 6, 7, 8, 9, 2, 10, 11, 12, 13, 14, 15, 16] (proofFor_new a b e hk hn) rfl ?_ ?_ ?_ | refine effS_c [1, 3, 4, 5, 6, 7, 8, 9] (relay_ok a State.new 0 e p1 (by decide)) rfl ?_ ?_ ?_ | ((first | apply gR | apply gC | apply gT | apply gE) <;> intro hq <;> (try simp only [nT, nF, n1, n0] at hq) <;> (have hb := hq) <;> (try simp only [dT, dF, eT, eF] at hb) <;> first | (exfalso; omega) | ((try simp only [hq]); clear hq))) <;> (try simp only [go_sem, qa, qb, qc, qd, qe, qf, qg, qh, qi, qj, qk, ql, qm, qn, qo, qp, qq, qr, qs, reduceIte, reduceCtorEq])) | refine Fits.of ?_ ?_ | (refine aL ?_ (fun hp => ?_) <;> ((try simp only [rowSet_fI hp, rowSet_fI2 hp]); (try simp only [rowSet_fB hp]))) | refine aE ?_ fun hp => ?_ | refine aC ?_ fun hp => ?_ | refine And.intro ?_ ?_ | clear hK K | clear hX hY X Y | clear hL L)
    all_goals try omega

theorem do1_no (a b : Chain) (e : Event) (ok1 : wOk [a, b] = true) (hch : e.chain = 1) (hk : 4 ≤ e.kind ∧ e.kind ≤ 7) (hn : ¬ (e.kind = 7 ∧ (e.n = 1 ∨ e.n = 5))) (hc : a.knows.contains e.height = false) : Call Tryz.prog 38 [.c (.ptr 0 0 0 0), e.av] (pairH ⟨a, b⟩ 3 10) 17 (.tup []) (pairH ⟨a, b⟩ 17 24) 31 := by
  obtain ⟨p1, p2, p3, p4, p5, p6⟩ := wOk_iff.1 ok1
  obtain ⟨q1, q2, q3, q4, q5, q6⟩ := chain_ok p1
  obtain ⟨u1, u2, u3, u4, u5, u6⟩ := chain_ok p2
  have cE := chainOk_ok e.chain
  rw [show In e.chain 1 2 = true from by rw [hch]; decide] at cE
  have q7 := knows_len q6
  · refine CallX.of tok Tryz.func38 rfl rfl Tryz.ntmps38 Tryz.results38 rfl (by decide) (fun cx hnt hk0 => ?_)
    
    repeat' (first | refine AWp.seq fun K hK => ?_ | refine hK _ ?_; clear hK K | refine hX ?_; clear hX hY X Y | refine hY ?_; clear hX hY X Y | refine AWp.block ?_ | refine hL _ _ ?_ | ((first | refine AWp.region tok (by rw [hnt]; rfl) ?_ | refine AWp.cond' fun X Y hX hY => ?_ | refine AWp.skip ?_ | refine AWp.exit ?_ | refine AWp.ret ?_ | refine Fin.auto [] ?_ | refine runS_c [] (cE) rfl ?_ ?_ ?_ | refine runS_c [0, 1, 2] (ends_1 e.chain hch) rfl ?_ ?_ ?_ | refine runS_c [1, 3, 4, 5, 6, 7, 8, 9, 2, 10, 11, 12, 13, 14, 15, 16] (proofFor_no a b e hn (by omega) hc) rfl ?_ ?_ ?_ | refine AWp.draw (id := 11) tok mixed pl_do1_block0 [1,17] [3, 4] (by kernel_rfl) (by kernel_rfl) (by rw [hnt]; rfl) ?_ | refine effS_c [] (cE) rfl ?_ ?_ ?_ | refine effS_c [0, 1, 2] (ends_1 e.chain hch) rfl ?_ ?_ ?_ | refine effS_c [1, 3, 4, 5, 6, 7, 8, 9, 2, 10, 11, 12, 13, 14, 15, 16] (proofFor_no a b e hn (by omega) hc) rfl ?_ ?_ ?_ | ((first | apply gR | apply gC | apply gT | apply gE) <;> intro hq <;> (try simp only [nT, nF, n1, n0] at hq) <;> (have hb := hq) <;> (try simp only [dT, dF, eT, eF] at hb) <;> first | (exfalso; omega) | ((try simp only [hq]); clear hq))) <;> (try simp only [go_sem, qa, qb, qc, qd, qe, qf, qg, qh, qi, qj, qk, ql, qm, qn, qo, qp, qq, qr, qs, reduceIte, reduceCtorEq, proofNone])) | refine Fits.of ?_ ?_ | (refine aL ?_ (fun hp => ?_) <;> ((try simp only [rowSet_fI hp, rowSet_fI2 hp]); (try simp only [rowSet_fB hp]))) | refine aE ?_ fun hp => ?_ | refine aC ?_ fun hp => ?_ | refine And.intro ?_ ?_ | clear hK K | clear hX hY X Y | clear hL L)
    all_goals try omega

theorem do1_yes (a b : Chain) (e : Event) (ok1 : wOk [a, b] = true) (hch : e.chain = 1) (hk : 4 ≤ e.kind ∧ e.kind ≤ 7) (hn : ¬ (e.kind = 7 ∧ (e.n = 1 ∨ e.n = 5))) (hc : a.knows.contains e.height = true) : Call Tryz.prog 38 [.c (.ptr 0 0 0 0), e.av] (pairH ⟨a, b⟩ 3 10) 17 (.tup []) (pairH ⟨(a.relayed (b.at e.height) e.height e), b⟩ 17 24) 31 := by
  obtain ⟨p1, p2, p3, p4, p5, p6⟩ := wOk_iff.1 ok1
  obtain ⟨q1, q2, q3, q4, q5, q6⟩ := chain_ok p1
  obtain ⟨u1, u2, u3, u4, u5, u6⟩ := chain_ok p2
  have cE := chainOk_ok e.chain
  rw [show In e.chain 1 2 = true from by rw [hch]; decide] at cE
  have q7 := knows_len q6
  obtain ⟨i1, i2⟩ := know_in p1 p5 hc
  have hs : (b.at e.height).ok = true := u5 _ (by omega)
  · refine CallX.of tok Tryz.func38 rfl rfl Tryz.ntmps38 Tryz.results38 rfl (by decide) (fun cx hnt hk0 => ?_)
    
    repeat' (first | refine AWp.seq fun K hK => ?_ | refine hK _ ?_; clear hK K | refine hX ?_; clear hX hY X Y | refine hY ?_; clear hX hY X Y | refine AWp.block ?_ | refine hL _ _ ?_ | ((first | refine AWp.region tok (by rw [hnt]; rfl) ?_ | refine AWp.cond' fun X Y hX hY => ?_ | refine AWp.skip ?_ | refine AWp.exit ?_ | refine AWp.ret ?_ | refine Fin.auto [] ?_ | refine runS_c [] (cE) rfl ?_ ?_ ?_ | refine runS_c [0, 1, 2] (ends_1 e.chain hch) rfl ?_ ?_ ?_ | refine runS_c [1, 3, 4, 5, 6, 7, 8, 9, 2, 10, 11, 12, 13, 14, 15, 16] (proofFor_yes a b e hn (by omega) hc i1 i2 (by omega)) rfl ?_ ?_ ?_ | refine runS_c [1, 3, 4, 5, 6, 7, 8, 9] (relay_ok a (b.at e.height) e.height e p1 hs) rfl ?_ ?_ ?_ | refine AWp.draw (id := 11) tok mixed pl_do1_block0 [1,17] [3, 4] (by kernel_rfl) (by kernel_rfl) (by rw [hnt]; rfl) ?_ | refine effS_c [] (cE) rfl ?_ ?_ ?_ | refine effS_c [0, 1, 2] (ends_1 e.chain hch) rfl ?_ ?_ ?_ | refine effS_c [1, 3, 4, 5, 6, 7, 8, 9, 2, 10, 11, 12, 13, 14, 15, 16] (proofFor_yes a b e hn (by omega) hc i1 i2 (by omega)) rfl ?_ ?_ ?_ | refine effS_c [1, 3, 4, 5, 6, 7, 8, 9] (relay_ok a (b.at e.height) e.height e p1 hs) rfl ?_ ?_ ?_ | ((first | apply gR | apply gC | apply gT | apply gE) <;> intro hq <;> (try simp only [nT, nF, n1, n0] at hq) <;> (have hb := hq) <;> (try simp only [dT, dF, eT, eF] at hb) <;> first | (exfalso; omega) | ((try simp only [hq]); clear hq))) <;> (try simp only [go_sem, qa, qb, qc, qd, qe, qf, qg, qh, qi, qj, qk, ql, qm, qn, qo, qp, qq, qr, qs, reduceIte, reduceCtorEq])) | refine Fits.of ?_ ?_ | (refine aL ?_ (fun hp => ?_) <;> ((try simp only [rowSet_fI hp, rowSet_fI2 hp]); (try simp only [rowSet_fB hp]))) | refine aE ?_ fun hp => ?_ | refine aC ?_ fun hp => ?_ | refine And.intro ?_ ?_ | clear hK K | clear hX hY X Y | clear hL L)
    all_goals try omega

theorem do1_ok (a b : Chain) (e : Event) (ok1 : wOk [a, b] = true) (hch : e.chain = 1) : Call Tryz.prog 38 [.c (.ptr 0 0 0 0), e.av] (pairH ⟨a, b⟩ 3 10) 17 (.tup []) (pairH ⟨(a.on b e), b⟩ 17 24) 31 := by
  obtain ⟨p1, p2, p3, p4, p5, p6⟩ := wOk_iff.1 ok1
  by_cases h0 : e.kind < 1 ∨ 8 < e.kind
  · rw [on_none h0]; exact do1_none a b e ok1 hch h0
  by_cases h1 : e.kind = 1
  · have : (a.on b e) = a.block := by unfold Chain.on; rw [if_pos h1]
    rw [this]; exact do1_block a b e ok1 hch h1
  by_cases h2 : e.kind = 2
  · have : (a.on b e) = a.know b e.height := by unfold Chain.on; rw [if_neg h1, if_pos h2]
    rw [this]; exact do1_know a b e ok1 hch h2
  by_cases h3 : e.kind = 3
  · have : (a.on b e) = a.send e.packet.kind e.packet.src e.packet.dst e.packet.sum e.packet.till := by unfold Chain.on; rw [if_neg h1, if_neg h2, if_pos h3]
    rw [this]; exact do1_send a b e ok1 hch h3
  by_cases h8 : e.kind = 8
  · have : (a.on b e) = a.move e.packet.kind e.packet.src e.packet.dst e.packet.sum := by unfold Chain.on; rw [if_neg h1, if_neg h2, if_neg h3, if_pos h8]
    rw [this]; exact do1_move a b e ok1 hch h8
  by_cases hn : e.kind = 7 ∧ (e.n = 1 ∨ e.n = 5)
  · rw [on_new hn.1 hn.2]; exact do1_new a b e ok1 hch hn.1 hn.2
  rw [on_relayed p1 p2 p5 (by omega) hn]
  cases hc : a.knows.contains e.height
  · rw [if_neg (by simp)]; exact do1_no a b e ok1 hch (by omega) hn hc
  · rw [if_pos rfl]; exact do1_yes a b e ok1 hch (by omega) hn hc
end Go.Hw
