/- What is proved here: parts W1, W5, W6, W7, W8 of the walk of the law and of its plain side; no condition but those that each theorem states. -/
import Derived.Test.YtcbceacjhmblnaaGreatA3
/- What is proved: small functions of the reference that look at numbers, packets and banks. -/
set_option linter.all false
set_option maxRecDepth 100000
set_option maxHeartbeats 4000000
namespace Go.Hw
open Go.Proofs
open Nat renaming reduceDiv → qa, reduceMod → qb, reduceAdd → qc, reduceMul → qd, reduceSub → qe, reduceLeDiff → qf, reduceBEq → qg, reduceEqDiff → qh, reduceBeqDiff → qi, reduceLT → qj
open Int renaming reduceToNat → qk, reduceAdd → ql, reduceSub → qm, reduceNeg → qn, reduceLT → qo, reduceLE → qp, reduceEq → qq, reduceBEq → qr, reduceBNe → qs
open Go.Hw renaming runG_split → gR, condG_split → gC, takG_split → gT, effG_split → gE
theorem l6In_ok (n l h : Int) : Call Tryz.prog 67 [I n, I l, I h] [] 0 (.o (BB (In n l h))) [] 0 := by
  refine CallX.of tok Tryz.func67 rfl rfl Tryz.ntmps67 Tryz.results67 rfl (by decide) (fun cx hnt hk0 => ?_)
  repeat' (first | refine AWp.seq fun K hK => ?_ | refine hK _ ?_; clear hK K | refine hX ?_; clear hX hY X Y | refine hY ?_; clear hX hY X Y | refine AWp.block ?_ | refine hL _ _ ?_ | ((first | refine AWp.region tok (by rw [hnt]; rfl) ?_ | refine AWp.cond' fun X Y hX hY => ?_ | refine AWp.skip ?_ | refine AWp.exit ?_ | refine AWp.ret ?_ | refine Fin.auto [] ?_ | ((first | apply gR | apply gC) <;> intro hq <;> (try simp only [nT, nF, n1, n0] at hq) <;> (have hb := hq) <;> (try simp only [dT, dF, eT, eF] at hb) <;> first | (exfalso; omega) | ((try simp only [hq]); clear hq))) <;> (try simp only [go_sem, qa, qb, qc, qd, qe, qf, qg, qh, qi, qj, qk, ql, qm, qn, qo, qp, qq, qr, qs, reduceIte, reduceCtorEq])) | refine Fits.of ?_ ?_ | (refine aL ?_ (fun hp => ?_) <;> ((try simp only [rowSet_fI hp, rowSet_fI2 hp]); (try simp only [rowSet_fB hp]))) | refine aE ?_ fun hp => ?_ | refine aC ?_ fun hp => ?_ | refine And.intro ?_ ?_ | clear hK K | clear hX hY X Y | clear hL L)
  all_goals simp [In, *]
theorem l1User_ok (n : Int) : Call Tryz.prog 132 [I n] [] 0 (.o (BB (In n 1 3))) [] 0 := by
  refine CallX.of tok Tryz.func132 rfl rfl Tryz.ntmps132 Tryz.results132 rfl (by decide) (fun cx hnt hk0 => ?_)
  repeat' (first | refine AWp.seq fun K hK => ?_ | refine hK _ ?_; clear hK K | refine hX ?_; clear hX hY X Y | refine hY ?_; clear hX hY X Y | refine AWp.block ?_ | refine hL _ _ ?_ | ((first | refine AWp.region tok (by rw [hnt]; rfl) ?_ | refine AWp.cond' fun X Y hX hY => ?_ | refine AWp.skip ?_ | refine AWp.exit ?_ | refine AWp.ret ?_ | refine Fin.auto [] ?_ | refine runS_c [] (l6In_ok _ _ _) rfl ?_ ?_ ?_ | ((first | apply gR | apply gC) <;> intro hq <;> (try simp only [nT, nF, n1, n0] at hq) <;> (have hb := hq) <;> (try simp only [dT, dF, eT, eF] at hb) <;> first | (exfalso; omega) | ((try simp only [hq]); clear hq))) <;> (try simp only [go_sem, qa, qb, qc, qd, qe, qf, qg, qh, qi, qj, qk, ql, qm, qn, qo, qp, qq, qr, qs, reduceIte, reduceCtorEq])) | refine Fits.of ?_ ?_ | (refine aL ?_ (fun hp => ?_) <;> ((try simp only [rowSet_fI hp, rowSet_fI2 hp]); (try simp only [rowSet_fB hp]))) | refine aE ?_ fun hp => ?_ | refine aC ?_ fun hp => ?_ | refine And.intro ?_ ?_ | clear hK K | clear hX hY X Y | clear hL L)
theorem PacketOk_ok (p : Packet) : Call Tryz.prog 129 [p.av] [] 0 (.o (BB p.ok)) [] 0 := by
  refine CallX.of tok Tryz.func129 rfl rfl Tryz.ntmps129 Tryz.results129 rfl (by decide) (fun cx hnt hk0 => ?_)
  repeat' (first | refine AWp.seq fun K hK => ?_ | refine hK _ ?_; clear hK K | refine hX ?_; clear hX hY X Y | refine hY ?_; clear hX hY X Y | refine AWp.block ?_ | refine hL _ _ ?_ | ((first | refine AWp.region tok (by rw [hnt]; rfl) ?_ | refine AWp.cond' fun X Y hX hY => ?_ | refine AWp.skip ?_ | refine AWp.exit ?_ | refine AWp.ret ?_ | refine Fin.auto [] ?_ | refine runS_c [] (l6In_ok _ _ _) rfl ?_ ?_ ?_ | refine runS_c [] (l1User_ok _) rfl ?_ ?_ ?_ | ((first | apply gR | apply gC) <;> intro hq <;> (try simp only [nT, nF, n1, n0] at hq) <;> (have hb := hq) <;> (try simp only [dT, dF, eT, eF] at hb) <;> first | (exfalso; omega) | ((try simp only [hq]); clear hq))) <;> (try simp only [go_sem, qa, qb, qc, qd, qe, qf, qg, qh, qi, qj, qk, ql, qm, qn, qo, qp, qq, qr, qs, reduceIte, reduceCtorEq])) | refine Fits.of ?_ ?_ | (refine aL ?_ (fun hp => ?_) <;> ((try simp only [rowSet_fI hp, rowSet_fI2 hp]); (try simp only [rowSet_fB hp]))) | refine aE ?_ fun hp => ?_ | refine aC ?_ fun hp => ?_ | refine And.intro ?_ ?_ | clear hK K | clear hX hY X Y | clear hL L)
  all_goals simp [Packet.ok, *]
theorem l1All_ok (l : List Int) (hp : parts l = true) : Call Tryz.prog 151 [.c (.t (intsT l))] [] 0 (.o (I (isum l))) [] 0 := by
  refine CallX.of tok Tryz.func151 rfl rfl Tryz.ntmps151 Tryz.results151 rfl (by decide) (fun cx hnt hk0 => ?_)
  repeat' (first | refine AWp.seq fun K hK => ?_ | refine hK _ ?_; clear hK K | refine hX ?_; clear hX hY X Y | refine hY ?_; clear hX hY X Y | refine AWp.block ?_ | refine hL _ _ ?_ | ((first | refine AWp.region tok (by rw [hnt]; rfl) ?_ | refine AWp.cond' fun X Y hX hY => ?_ | refine AWp.skip ?_ | refine AWp.exit ?_ | refine AWp.ret ?_ | refine Fin.auto [] ?_ | ((first | apply gR | apply gC) <;> intro hq <;> (try simp only [nT, nF, n1, n0] at hq) <;> (have hb := hq) <;> (try simp only [dT, dF, eT, eF] at hb) <;> first | (exfalso; omega) | ((try simp only [hq]); clear hq))) <;> (try simp only [go_sem, qa, qb, qc, qd, qe, qf, qg, qh, qi, qj, qk, ql, qm, qn, qo, qp, qq, qr, qs, reduceIte, reduceCtorEq])) | refine Fits.of ?_ ?_ | (refine aL ?_ (fun hp => ?_) <;> ((try simp only [rowSet_fI hp, rowSet_fI2 hp]); (try simp only [rowSet_fB hp]))) | refine aE ?_ fun hp => ?_ | refine aC ?_ fun hp => ?_ | refine And.intro ?_ ?_ | clear hK K | clear hX hY X Y | clear hL L)
  refine AWp.loop (fun i : Nat => ⟨[(0, .o (.c (.t (intsT l)))), (3, .o (I (isum (l.take i)))), (4, .o (I i))], [], 0⟩) (fun i => i ≤ l.length) (fun i => l.length - i) 0 (Nat.zero_le _) ?_ ?_
  · refine SLe.auto hk0 [] ?_; simp only [go_sem, qa, qb, qc, qd, qe, qf, qg, qh, qi, qj, qk, ql, qm, qn, qo, qp, qq, qr, qs, reduceIte, reduceCtorEq, List.take_zero, isum, List.foldl_nil]
    simp
  intro i hi
  have h1 := parts_len hp
  have h2 := parts_get hp i
  have h3 := parts_sum hp i hi
  repeat' (first | refine AWp.seq fun K hK => ?_ | refine hK _ ?_; clear hK K | refine hX ?_; clear hX hY X Y | refine hY ?_; clear hX hY X Y | refine AWp.block ?_ | refine hL _ _ ?_ | ((first | refine AWp.region tok (by rw [hnt]; rfl) ?_ | refine AWp.cond' fun X Y hX hY => ?_ | refine AWp.skip ?_ | refine AWp.exit ?_ | refine AWp.ret ?_ | refine Fin.auto [] ?_ | ((first | apply gR | apply gC) <;> intro hq <;> (try simp only [nT, nF, n1, n0] at hq) <;> (have hb := hq) <;> (try simp only [dT, dF, eT, eF] at hb) <;> first | (exfalso; omega) | ((try simp only [hq]); clear hq))) <;> (try simp only [go_sem, qa, qb, qc, qd, qe, qf, qg, qh, qi, qj, qk, ql, qm, qn, qo, qp, qq, qr, qs, reduceIte, reduceCtorEq])) | refine Fits.of ?_ ?_ | (refine aL ?_ (fun hp => ?_) <;> ((try simp only [rowSet_fI hp, rowSet_fI2 hp]); (try simp only [rowSet_fB hp]))) | refine aE ?_ fun hp => ?_ | refine aC ?_ fun hp => ?_ | refine And.intro ?_ ?_ | clear hK K | clear hX hY X Y | clear hL L)
  all_goals try (first | omega | (simp only [decide_eq_true_eq, decide_eq_false_iff_not, decide_eq_decide]; omega))
  · refine ⟨i + 1, by omega, ?_, by omega⟩
    refine SLe.auto hk0 [] ?_; simp only [go_sem, qa, qb, qc, qd, qe, qf, qg, qh, qi, qj, qk, ql, qm, qn, qo, qp, qq, qr, qs, reduceIte, reduceCtorEq]
    rw [isum_take l i (by omega)]; simp
  · rw [show i = l.length from by omega, List.take_length]
theorem l1Parts_ok (l : List Int) (hn : (l.length : Int) < 1099511627776) : Call Tryz.prog 150 [.c (.t (intsT l))] [] 0 (.o (BB (parts l))) [] 0 := by
  refine CallX.of tok Tryz.func150 rfl rfl Tryz.ntmps150 Tryz.results150 rfl (by decide) (fun cx hnt hk0 => ?_)
  repeat' (first | refine AWp.seq fun K hK => ?_ | refine hK _ ?_; clear hK K | refine hX ?_; clear hX hY X Y | refine hY ?_; clear hX hY X Y | refine AWp.block ?_ | refine hL _ _ ?_ | ((first | refine AWp.region tok (by rw [hnt]; rfl) ?_ | refine AWp.cond' fun X Y hX hY => ?_ | refine AWp.skip ?_ | refine AWp.exit ?_ | refine AWp.ret ?_ | refine Fin.auto [] ?_ | ((first | apply gR | apply gC) <;> intro hq <;> (try simp only [nT, nF, n1, n0] at hq) <;> (have hb := hq) <;> (try simp only [dT, dF, eT, eF] at hb) <;> first | (exfalso; omega) | ((try simp only [hq]); clear hq))) <;> (try simp only [go_sem, qa, qb, qc, qd, qe, qf, qg, qh, qi, qj, qk, ql, qm, qn, qo, qp, qq, qr, qs, reduceIte, reduceCtorEq])) | refine Fits.of ?_ ?_ | (refine aL ?_ (fun hp => ?_) <;> ((try simp only [rowSet_fI hp, rowSet_fI2 hp]); (try simp only [rowSet_fB hp]))) | refine aE ?_ fun hp => ?_ | refine aC ?_ fun hp => ?_ | refine And.intro ?_ ?_ | clear hK K | clear hX hY X Y | clear hL L)
  refine AWp.loop (fun i : Nat => ⟨[(0, .o (.c (.t (intsT l)))), (3, .o (I i))], [], 0⟩) (fun i => i ≤ l.length ∧ rall i (fun i => In (l.getD i 0) 0 30) = true) (fun i => l.length - i) 0 ⟨Nat.zero_le _, rall_zero⟩ ?_ ?_
  · refine SLe.auto hk0 [] ?_; simp only [go_sem, qa, qb, qc, qd, qe, qf, qg, qh, qi, qj, qk, ql, qm, qn, qo, qp, qq, qr, qs, reduceIte, reduceCtorEq]
    simp
  intro i ⟨hi, hr⟩
  repeat' (first | refine AWp.seq fun K hK => ?_ | refine hK _ ?_; clear hK K | refine hX ?_; clear hX hY X Y | refine hY ?_; clear hX hY X Y | refine AWp.block ?_ | refine hL _ _ ?_ | ((first | refine AWp.region tok (by rw [hnt]; rfl) ?_ | refine AWp.cond' fun X Y hX hY => ?_ | refine AWp.skip ?_ | refine AWp.exit ?_ | refine AWp.ret ?_ | refine Fin.auto [] ?_ | refine runS_c [] (l6In_ok _ _ _) rfl ?_ ?_ ?_ | refine SLe.auto hk0 [] ?_ | ((first | apply gR | apply gC) <;> intro hq <;> (try simp only [nT, nF, n1, n0] at hq) <;> (have hb := hq) <;> (try simp only [dT, dF, eT, eF] at hb) <;> first | (exfalso; omega) | ((try simp only [hq]); clear hq))) <;> (try simp only [go_sem, qa, qb, qc, qd, qe, qf, qg, qh, qi, qj, qk, ql, qm, qn, qo, qp, qq, qr, qs, reduceIte, reduceCtorEq])) | refine ⟨i + 1, ?_, ?_, ?_⟩ | refine Fits.of ?_ ?_ | (refine aL ?_ (fun hp => ?_) <;> ((try simp only [rowSet_fI hp, rowSet_fI2 hp]); (try simp only [rowSet_fB hp]))) | refine aE ?_ fun hp => ?_ | refine aC ?_ fun hp => ?_ | refine And.intro ?_ ?_ | clear hK K | clear hX hY X Y | clear hL L)
  all_goals try (first | omega | (simp only [decide_eq_true_eq, decide_eq_false_iff_not, decide_eq_decide]; omega))
  · simp only [parts]
    rw [rall_false (by omega) (p := fun i => In (l.getD i 0) 0 30) (i := i) (by simpa using hb)]; rfl
  · exact rall_succ hr (by simpa using hb)
  · rw [show i = l.length from by omega] at hr
    simp only [parts, hr, Bool.true_and]
theorem BankOk_ok (b : Bank) (hn : (b.own.length : Int) < 1099511627776) (hm : (b.notes.length : Int) < 1099511627776) (hl : b.locked < 1099511627776) : Call Tryz.prog 131 [b.av] [] 0 (.o (BB b.ok)) [] 0 := by
  refine CallX.of tok Tryz.func131 rfl rfl Tryz.ntmps131 Tryz.results131 rfl (by decide) (fun cx hnt hk0 => ?_)
  
  repeat' (first | refine AWp.seq fun K hK => ?_ | refine hK _ ?_; clear hK K | refine hX ?_; clear hX hY X Y | refine hY ?_; clear hX hY X Y | refine AWp.block ?_ | refine hL _ _ ?_ | ((first | refine AWp.region tok (by rw [hnt]; rfl) ?_ | refine AWp.cond' fun X Y hX hY => ?_ | refine AWp.skip ?_ | refine AWp.exit ?_ | refine AWp.ret ?_ | refine Fin.auto [] ?_ | refine runS_c [] (l1Parts_ok b.own hn) rfl ?_ ?_ ?_ | refine runS_c [] (l1Parts_ok b.notes hm) rfl ?_ ?_ ?_ | refine runS_c [] (l1All_ok b.own (by assumption)) rfl ?_ ?_ ?_ | refine runS_c [] (l1All_ok b.notes (by assumption)) rfl ?_ ?_ ?_ | refine AWp.draw (id := 1) tok mixed (.tak 0 (.tak 1 (.all (.cons 2 (.tak 3 (.tak 4 (.tak 5 (.all (.cons 6 (.tak 7 (.tak 8 (.tak 9 (.tak 10 (.tak 11 (.tak 12 (.tak 13 (.tak 14 (.tak 15 (.tak 17 (.tak 18 (.all (.cons 16 (.tak 19 (.tak 20 (.tak 21 (.tak 22 (.tak 23 (.tak 24 (.all (.cons 25 (.tak 26 (.tak 27 (.tak 28 .done))) .nil)))))))) .nil))))))))))))) .nil))))) .nil)))) [0] [1] (by kernel_rfl) (by kernel_rfl) (by rw [hnt]; rfl) ?_ | refine effS_c [] (l1Parts_ok b.own hn) rfl ?_ ?_ ?_ | refine effS_c [] (l1Parts_ok b.notes hm) rfl ?_ ?_ ?_ | refine effS_c [] (l1All_ok b.own (by assumption)) rfl ?_ ?_ ?_ | refine effS_c [] (l1All_ok b.notes (by assumption)) rfl ?_ ?_ ?_ | ((first | apply gR | apply gC | apply gT | apply gE) <;> intro hq <;> (try simp only [nT, nF, n1, n0] at hq) <;> (have hb := hq) <;> (try simp only [dT, dF, eT, eF] at hb) <;> first | (exfalso; omega) | ((try simp only [hq]); clear hq))) <;> (try simp only [go_sem, qa, qb, qc, qd, qe, qf, qg, qh, qi, qj, qk, ql, qm, qn, qo, qp, qq, qr, qs, reduceIte, reduceCtorEq])) | refine Fits.of ?_ ?_ | (refine aL ?_ (fun hp => ?_) <;> ((try simp only [rowSet_fI hp, rowSet_fI2 hp]); (try simp only [rowSet_fB hp]))) | refine aE ?_ fun hp => ?_ | refine aC ?_ fun hp => ?_ | refine And.intro ?_ ?_ | clear hK K | clear hX hY X Y | clear hL L)
  all_goals try (have h0 : parts b.own = true := by assumption
                 have := parts_all h0; omega)
  all_goals try (simp [Bank.ok, *]; done)
end Go.Hw
/- What is proved: what the reference copies, and what it does to a bank. -/
set_option linter.all false
set_option maxRecDepth 100000
set_option maxHeartbeats 4000000
namespace Go.Hw
open Go.Proofs
open Nat renaming reduceDiv → qa, reduceMod → qb, reduceAdd → qc, reduceMul → qd, reduceSub → qe, reduceLeDiff → qf, reduceBEq → qg, reduceEqDiff → qh, reduceBeqDiff → qi, reduceLT → qj
open Int renaming reduceToNat → qk, reduceAdd → ql, reduceSub → qm, reduceNeg → qn, reduceLT → qo, reduceLE → qp, reduceEq → qq, reduceBEq → qr, reduceBNe → qs
open Go.Hw renaming runG_split → gR, condG_split → gC, takG_split → gT, effG_split → gE
theorem BankNew_ok : Call Tryz.prog 95 [] [] 0 (.o (.g (bankA Bank.new 0))) (bankH Bank.new 0) 2 := by
  refine CallX.of tok Tryz.func95 rfl rfl Tryz.ntmps95 Tryz.results95 rfl (by decide) (fun cx hnt hk0 => ?_)
  repeat' (first | refine AWp.seq fun K hK => ?_ | refine hK _ ?_; clear hK K | refine hX ?_; clear hX hY X Y | refine hY ?_; clear hX hY X Y | refine AWp.block ?_ | refine hL _ _ ?_ | ((first | refine AWp.region tok (by rw [hnt]; rfl) ?_ | refine AWp.cond' fun X Y hX hY => ?_ | refine AWp.skip ?_ | refine AWp.exit ?_ | refine AWp.ret ?_ | refine Fin.auto [] ?_ | ((first | apply gR | apply gC) <;> intro hq <;> (try simp only [nT, nF, n1, n0] at hq) <;> (have hb := hq) <;> (try simp only [dT, dF, eT, eF] at hb) <;> first | (exfalso; omega) | ((try simp only [hq]); clear hq))) <;> (try simp only [go_sem, qa, qb, qc, qd, qe, qf, qg, qh, qi, qj, qk, ql, qm, qn, qo, qp, qq, qr, qs, reduceIte, reduceCtorEq, Bank.new])) | refine Fits.of ?_ ?_ | (refine aL ?_ (fun hp => ?_) <;> ((try simp only [rowSet_fI hp, rowSet_fI2 hp]); (try simp only [rowSet_fB hp]))) | refine aE ?_ fun hp => ?_ | refine aC ?_ fun hp => ?_ | refine And.intro ?_ ?_ | clear hK K | clear hX hY X Y | clear hL L)
theorem StateNew_ok : Call Tryz.prog 96 [] [] 0 (.o (.g (stateA State.new 0))) (stateH State.new 0) 4 := by
  refine CallX.of tok Tryz.func96 rfl rfl Tryz.ntmps96 Tryz.results96 rfl (by decide) (fun cx hnt hk0 => ?_)
  repeat' (first | refine AWp.seq fun K hK => ?_ | refine hK _ ?_; clear hK K | refine hX ?_; clear hX hY X Y | refine hY ?_; clear hX hY X Y | refine AWp.block ?_ | refine hL _ _ ?_ | ((first | refine AWp.region tok (by rw [hnt]; rfl) ?_ | refine AWp.cond' fun X Y hX hY => ?_ | refine AWp.skip ?_ | refine AWp.exit ?_ | refine AWp.ret ?_ | refine Fin.auto [] ?_ | ((first | apply gR | apply gC) <;> intro hq <;> (try simp only [nT, nF, n1, n0] at hq) <;> (have hb := hq) <;> (try simp only [dT, dF, eT, eF] at hb) <;> first | (exfalso; omega) | ((try simp only [hq]); clear hq))) <;> (try simp only [go_sem, qa, qb, qc, qd, qe, qf, qg, qh, qi, qj, qk, ql, qm, qn, qo, qp, qq, qr, qs, reduceIte, reduceCtorEq, State.new])) | refine Fits.of ?_ ?_ | (refine aL ?_ (fun hp => ?_) <;> ((try simp only [rowSet_fI hp, rowSet_fI2 hp]); (try simp only [rowSet_fB hp]))) | refine aE ?_ fun hp => ?_ | refine aC ?_ fun hp => ?_ | refine And.intro ?_ ?_ | clear hK K | clear hX hY X Y | clear hL L)
  all_goals trace_state
theorem l1Copy_ok (b : Bank) (h1 : b.own.length ≤ 1000) (h2 : b.notes.length ≤ 1000) : Call Tryz.prog 134 [b.av] [] 0 (.o (.g (bankA b 0))) (bankH b 0) 2 := by
  refine CallX.of tok Tryz.func134 rfl rfl Tryz.ntmps134 Tryz.results134 rfl (by decide) (fun cx hnt hk0 => ?_)
  
  repeat' (first | refine AWp.seq fun K hK => ?_ | refine hK _ ?_; clear hK K | refine hX ?_; clear hX hY X Y | refine hY ?_; clear hX hY X Y | refine AWp.block ?_ | refine hL _ _ ?_ | ((first | refine AWp.region tok (by rw [hnt]; rfl) ?_ | refine AWp.cond' fun X Y hX hY => ?_ | refine AWp.skip ?_ | refine AWp.exit ?_ | refine AWp.ret ?_ | refine Fin.auto [] ?_ | refine AWp.draw (id := 1) tok mixed (.tak 1 (.tak 2 (.tak 5 (.tak 6 (.tak 8 (.tak 9 (.all (.cons 0 (.all (.cons 3 (.all (.cons 4 (.all (.cons 7 (.all (.cons 10 (.all (.cons 11 .done .nil)) .nil)) .nil)) .nil)) (.cons 4 (.all (.cons 3 (.all (.cons 7 (.all (.cons 10 (.all (.cons 11 .done .nil)) .nil)) .nil)) .nil)) .nil))) (.cons 4 (.all (.cons 0 (.all (.cons 3 (.all (.cons 7 (.all (.cons 10 (.all (.cons 11 .done .nil)) .nil)) .nil)) .nil)) .nil)) .nil))))))))) [0] [1, 2] (by kernel_rfl) (by kernel_rfl) (by rw [hnt]; rfl) ?_ | ((first | apply gR | apply gC | apply gT | apply gE) <;> intro hq <;> (try simp only [nT, nF, n1, n0] at hq) <;> (have hb := hq) <;> (try simp only [dT, dF, eT, eF] at hb) <;> first | (exfalso; omega) | ((try simp only [hq]); clear hq))) <;> (try simp only [go_sem, qa, qb, qc, qd, qe, qf, qg, qh, qi, qj, qk, ql, qm, qn, qo, qp, qq, qr, qs, reduceIte, reduceCtorEq])) | refine Fits.of ?_ ?_ | (refine aL ?_ (fun hp => ?_) <;> ((try simp only [rowSet_fI hp, rowSet_fI2 hp]); (try simp only [rowSet_fB hp]))) | refine aE ?_ fun hp => ?_ | refine aC ?_ fun hp => ?_ | refine And.intro ?_ ?_ | clear hK K | clear hX hY X Y | clear hL L)
  all_goals try omega
theorem l3Copy_ok (s : State) (h1 : s.sent.length ≤ 1000) (h2 : s.live.length ≤ 1000) (h3 : s.back.length ≤ 1000) (h4 : s.got.length ≤ 1000) : Call Tryz.prog 127 [s.av] [] 0 (.o (.g (stateA s 0))) (stateH s 0) 4 := by
  refine CallX.of tok Tryz.func127 rfl rfl Tryz.ntmps127 Tryz.results127 rfl (by decide) (fun cx hnt hk0 => ?_)
  repeat' (first | refine AWp.seq fun K hK => ?_ | refine hK _ ?_; clear hK K | refine hX ?_; clear hX hY X Y | refine hY ?_; clear hX hY X Y | refine AWp.block ?_ | refine hL _ _ ?_ | ((first | refine AWp.region tok (by rw [hnt]; rfl) ?_ | refine AWp.cond' fun X Y hX hY => ?_ | refine AWp.skip ?_ | refine AWp.exit ?_ | refine AWp.ret ?_ | refine Fin.auto [] ?_ | ((first | apply gR | apply gC) <;> intro hq <;> (try simp only [nT, nF, n1, n0] at hq) <;> (have hb := hq) <;> (try simp only [dT, dF, eT, eF] at hb) <;> first | (exfalso; omega) | ((try simp only [hq]); clear hq))) <;> (try simp only [go_sem, qa, qb, qc, qd, qe, qf, qg, qh, qi, qj, qk, ql, qm, qn, qo, qp, qq, qr, qs, reduceIte, reduceCtorEq])) | refine Fits.of ?_ ?_ | (refine aL ?_ (fun hp => ?_) <;> ((try simp only [rowSet_fI hp, rowSet_fI2 hp]); (try simp only [rowSet_fB hp]))) | refine aE ?_ fun hp => ?_ | refine aC ?_ fun hp => ?_ | refine And.intro ?_ ?_ | clear hK K | clear hX hY X Y | clear hL L)
  all_goals try omega
theorem l1List_own (b : Bank) (kind : Int) (hk : kind = 1) : Call Tryz.prog 133 [.g (bankA b 0), I kind] (bankH b 0) 2 (.o (.c (.sl 0 1 0 b.own.length))) (bankH b 0) 2 := by
  refine CallX.of tok Tryz.func133 rfl rfl Tryz.ntmps133 Tryz.results133 rfl (by decide) (fun cx hnt hk0 => ?_)
  repeat' (first | refine AWp.seq fun K hK => ?_ | refine hK _ ?_; clear hK K | refine hX ?_; clear hX hY X Y | refine hY ?_; clear hX hY X Y | refine AWp.block ?_ | refine hL _ _ ?_ | ((first | refine AWp.region tok (by rw [hnt]; rfl) ?_ | refine AWp.cond' fun X Y hX hY => ?_ | refine AWp.skip ?_ | refine AWp.exit ?_ | refine AWp.ret ?_ | refine Fin.auto [] ?_ | ((first | apply gR | apply gC) <;> intro hq <;> (try simp only [nT, nF, n1, n0] at hq) <;> (have hb := hq) <;> (try simp only [dT, dF, eT, eF] at hb) <;> first | (exfalso; omega) | ((try simp only [hq]); clear hq))) <;> (try simp only [go_sem, qa, qb, qc, qd, qe, qf, qg, qh, qi, qj, qk, ql, qm, qn, qo, qp, qq, qr, qs, reduceIte, reduceCtorEq])) | refine Fits.of ?_ ?_ | (refine aL ?_ (fun hp => ?_) <;> ((try simp only [rowSet_fI hp, rowSet_fI2 hp]); (try simp only [rowSet_fB hp]))) | refine aE ?_ fun hp => ?_ | refine aC ?_ fun hp => ?_ | refine And.intro ?_ ?_ | clear hK K | clear hX hY X Y | clear hL L)
  all_goals try (exfalso; omega)
theorem l1List_note (b : Bank) (kind : Int) (hk : kind ≠ 1) : Call Tryz.prog 133 [.g (bankA b 0), I kind] (bankH b 0) 2 (.o (.c (.sl 1 1 0 b.notes.length))) (bankH b 0) 2 := by
  refine CallX.of tok Tryz.func133 rfl rfl Tryz.ntmps133 Tryz.results133 rfl (by decide) (fun cx hnt hk0 => ?_)
  repeat' (first | refine AWp.seq fun K hK => ?_ | refine hK _ ?_; clear hK K | refine hX ?_; clear hX hY X Y | refine hY ?_; clear hX hY X Y | refine AWp.block ?_ | refine hL _ _ ?_ | ((first | refine AWp.region tok (by rw [hnt]; rfl) ?_ | refine AWp.cond' fun X Y hX hY => ?_ | refine AWp.skip ?_ | refine AWp.exit ?_ | refine AWp.ret ?_ | refine Fin.auto [] ?_ | ((first | apply gR | apply gC) <;> intro hq <;> (try simp only [nT, nF, n1, n0] at hq) <;> (have hb := hq) <;> (try simp only [dT, dF, eT, eF] at hb) <;> first | (exfalso; omega) | ((try simp only [hq]); clear hq))) <;> (try simp only [go_sem, qa, qb, qc, qd, qe, qf, qg, qh, qi, qj, qk, ql, qm, qn, qo, qp, qq, qr, qs, reduceIte, reduceCtorEq])) | refine Fits.of ?_ ?_ | (refine aL ?_ (fun hp => ?_) <;> ((try simp only [rowSet_fI hp, rowSet_fI2 hp]); (try simp only [rowSet_fB hp]))) | refine aE ?_ fun hp => ?_ | refine aC ?_ fun hp => ?_ | refine And.intro ?_ ?_ | clear hK K | clear hX hY X Y | clear hL L)
  all_goals try (exfalso; omega)
theorem l1List_tree (b : Bank) (kind : Int) : Call Tryz.prog 133 [b.av, I kind] [] 0 (.o (.c (.t (intsT (b.list kind))))) [] 0 := by
  refine CallX.of tok Tryz.func133 rfl rfl Tryz.ntmps133 Tryz.results133 rfl (by decide) (fun cx hnt hk0 => ?_)
  by_cases hk1 : kind = 1
  · have e : b.list kind = b.own := by simp [Bank.list, hk1]
    rw [e]
    repeat' (first | refine AWp.seq fun K hK => ?_ | refine hK _ ?_; clear hK K | refine hX ?_; clear hX hY X Y | refine hY ?_; clear hX hY X Y | refine AWp.block ?_ | refine hL _ _ ?_ | ((first | refine AWp.region tok (by rw [hnt]; rfl) ?_ | refine AWp.cond' fun X Y hX hY => ?_ | refine AWp.skip ?_ | refine AWp.exit ?_ | refine AWp.ret ?_ | refine Fin.auto [] ?_ | ((first | apply gR | apply gC) <;> intro hq <;> (try simp only [nT, nF, n1, n0] at hq) <;> (have hb := hq) <;> (try simp only [dT, dF, eT, eF] at hb) <;> first | (exfalso; omega) | ((try simp only [hq]); clear hq))) <;> (try simp only [go_sem, qa, qb, qc, qd, qe, qf, qg, qh, qi, qj, qk, ql, qm, qn, qo, qp, qq, qr, qs, reduceIte, reduceCtorEq])) | refine Fits.of ?_ ?_ | (refine aL ?_ (fun hp => ?_) <;> ((try simp only [rowSet_fI hp, rowSet_fI2 hp]); (try simp only [rowSet_fB hp]))) | refine aE ?_ fun hp => ?_ | refine aC ?_ fun hp => ?_ | refine And.intro ?_ ?_ | clear hK K | clear hX hY X Y | clear hL L)
    all_goals try (exfalso; omega)
  · have e : b.list kind = b.notes := by simp [Bank.list, hk1]
    rw [e]
    repeat' (first | refine AWp.seq fun K hK => ?_ | refine hK _ ?_; clear hK K | refine hX ?_; clear hX hY X Y | refine hY ?_; clear hX hY X Y | refine AWp.block ?_ | refine hL _ _ ?_ | ((first | refine AWp.region tok (by rw [hnt]; rfl) ?_ | refine AWp.cond' fun X Y hX hY => ?_ | refine AWp.skip ?_ | refine AWp.exit ?_ | refine AWp.ret ?_ | refine Fin.auto [] ?_ | ((first | apply gR | apply gC) <;> intro hq <;> (try simp only [nT, nF, n1, n0] at hq) <;> (have hb := hq) <;> (try simp only [dT, dF, eT, eF] at hb) <;> first | (exfalso; omega) | ((try simp only [hq]); clear hq))) <;> (try simp only [go_sem, qa, qb, qc, qd, qe, qf, qg, qh, qi, qj, qk, ql, qm, qn, qo, qp, qq, qr, qs, reduceIte, reduceCtorEq])) | refine Fits.of ?_ ?_ | (refine aL ?_ (fun hp => ?_) <;> ((try simp only [rowSet_fI hp, rowSet_fI2 hp]); (try simp only [rowSet_fB hp]))) | refine aE ?_ fun hp => ?_ | refine aC ?_ fun hp => ?_ | refine And.intro ?_ ?_ | clear hK K | clear hX hY X Y | clear hL L)
    all_goals try (exfalso; omega)
end Go.Hw
/- What is proved: what the reference moves in a bank. -/
set_option linter.all false
set_option maxRecDepth 100000
set_option maxHeartbeats 4000000
namespace Go.Hw
open Go.Proofs
open Nat renaming reduceDiv → qa, reduceMod → qb, reduceAdd → qc, reduceMul → qd, reduceSub → qe, reduceLeDiff → qf, reduceBEq → qg, reduceEqDiff → qh, reduceBeqDiff → qi, reduceLT → qj
open Int renaming reduceToNat → qk, reduceAdd → ql, reduceSub → qm, reduceNeg → qn, reduceLT → qo, reduceLE → qp, reduceEq → qq, reduceBEq → qr, reduceBNe → qs
open Go.Hw renaming runG_split → gR, condG_split → gC, takG_split → gT, effG_split → gE
theorem BankMove_ok (b : Bank) (kind src dst sum : Int) (h1 : b.own.length ≤ 1000) (h2 : b.notes.length ≤ 1000) (h3 : b.locked < 1099511627776) :
    Call Tryz.prog 100 [b.av, I kind, I src, I dst, I sum] [] 0 (.tup [.g (bankA (b.moved kind src dst sum) 0), BB (b.moveB kind src dst sum)]) (bankH (b.moved kind src dst sum) 0) 2 := by
  unfold Bank.moved
  have qk : b.ok = true → (b.list kind).length = 3 := fun h => by
    obtain ⟨q1, q2, _⟩ := bank_ok h
    unfold Bank.list
    split
    · exact parts_len q1
    · exact parts_len q2
  cases hA : b.moveB kind src dst sum
  · refine CallX.of tok Tryz.func100 rfl rfl Tryz.ntmps100 Tryz.results100 rfl (by decide) (fun cx hnt hk0 => ?_)
    repeat' (first | refine AWp.seq fun K hK => ?_ | refine hK _ ?_; clear hK K | refine hX ?_; clear hX hY X Y | refine hY ?_; clear hX hY X Y | refine AWp.block ?_ | refine hL _ _ ?_ | ((first | refine AWp.region tok (by rw [hnt]; rfl) ?_ | refine AWp.cond' fun X Y hX hY => ?_ | refine AWp.skip ?_ | refine AWp.exit ?_ | refine AWp.ret ?_ | refine Fin.auto [] ?_ | refine runS_c [] (BankOk_ok b (by omega) (by omega) h3) rfl ?_ ?_ ?_ | refine runS_c [] (l6In_ok _ _ _) rfl ?_ ?_ ?_ | refine runS_c [] (l1User_ok _) rfl ?_ ?_ ?_ | refine runS_c [] (l1List_tree b kind) rfl ?_ ?_ ?_ | ((first | apply gR | apply gC) <;> intro hq <;> (try simp only [nT, nF, n1, n0] at hq) <;> (have hb := hq) <;> (try simp only [dT, dF, eT, eF] at hb) <;> first | (exfalso; omega) | ((try simp only [hq]); clear hq))) <;> (try simp only [go_sem, qa, qb, qc, qd, qe, qf, qg, qh, qi, qj, qk, ql, qm, qn, qo, qp, qq, qr, qs, reduceIte, reduceCtorEq, Bool.false_eq_true, Bank.none])) | refine Fits.of ?_ ?_ | (refine aL ?_ (fun hp => ?_) <;> ((try simp only [rowSet_fI hp, rowSet_fI2 hp]); (try simp only [rowSet_fB hp]))) | refine aE ?_ fun hp => ?_ | refine aC ?_ fun hp => ?_ | refine And.intro ?_ ?_ | clear hK K | clear hX hY X Y | clear hL L)
    all_goals try (have qk := qk (by assumption); simp only [In_iff] at *; omega)
    all_goals (exfalso
               have : b.moveB kind src dst sum = true := by
                 clear hA qk
                 simp only [Bank.moveB, Bank.at, Bool.true_and, Bool.and_eq_true, decide_eq_true_eq, true_and, *]
                 exact ⟨by omega, decide_eq_true (by omega)⟩
               rw [this] at hA; cases hA)
  · have hA2 := hA
    simp only [Bank.moveB, Bool.and_eq_true, decide_eq_true_eq] at hA2
    obtain ⟨hb, h4, h5, h6, h7, h8⟩ := hA2
    obtain ⟨q1, q2, q3, q4, q5⟩ := bank_ok hb
    have q6 := parts_len q1
    have q7 := parts_len q2
    have q8 := parts_get q1 (src - 1).toNat
    have q9 := parts_get q2 (src - 1).toNat
    have q10 := parts_get q1 (dst - 1).toNat
    have q11 := parts_get q2 (dst - 1).toNat
    have h4' := h4; have h5' := h5; have h6' := h6
    rw [In_iff] at h4' h5' h6'
    clear qk
    by_cases hd : kind = 1
    · have e : b.list kind = b.own := by simp [Bank.list, hd]
      have h8' : sum ≤ b.own.getD (src - 1).toNat 0 := by simpa [-List.getD_eq_getElem?_getD, Bank.at, e] using h8
      have q12 := parts_set q1 (i := (src - 1).toNat) (v := b.own.getD (src - 1).toNat 0 - sum) (by omega)
      have q13 := parts_get q12 (dst - 1).toNat
      refine CallX.of tok Tryz.func100 rfl rfl Tryz.ntmps100 Tryz.results100 rfl (by decide) (fun cx hnt hk0 => ?_)
      repeat' (first | refine AWp.seq fun K hK => ?_ | refine hK _ ?_; clear hK K | refine hX ?_; clear hX hY X Y | refine hY ?_; clear hX hY X Y | refine AWp.block ?_ | refine hL _ _ ?_ | ((first | refine AWp.region tok (by rw [hnt]; rfl) ?_ | refine AWp.cond' fun X Y hX hY => ?_ | refine AWp.skip ?_ | refine AWp.exit ?_ | refine AWp.ret ?_ | refine Fin.auto [] ?_ | refine runS_c [] (BankOk_ok b (by omega) (by omega) h3) rfl ?_ ?_ ?_ | refine runS_c [] (l6In_ok _ _ _) rfl ?_ ?_ ?_ | refine runS_c [] (l1User_ok _) rfl ?_ ?_ ?_ | refine runS_c [] (l1List_tree b kind) rfl ?_ ?_ ?_ | refine runS_c [] (l1Copy_ok b h1 h2) rfl ?_ ?_ ?_ | refine runS_c [_, _] (l1List_own b kind hd) rfl ?_ ?_ ?_ | ((first | apply gR | apply gC) <;> intro hq <;> (try simp only [nT, nF, n1, n0] at hq) <;> (have hb := hq) <;> (try simp only [dT, dF, eT, eF] at hb) <;> first | (exfalso; omega) | ((try simp only [hq]); clear hq))) <;> (try simp only [go_sem, qa, qb, qc, qd, qe, qf, qg, qh, qi, qj, qk, ql, qm, qn, qo, qp, qq, qr, qs, reduceIte, reduceCtorEq, hb, h4, h5, h6, e, Bank.moveD, Bank.dec, Bank.add, Bank.put, Bank.list, Bank.at, if_pos hd])) | refine Fits.of ?_ ?_ | (refine aL ?_ (fun hp => ?_) <;> ((try simp only [rowSet_fI hp, rowSet_fI2 hp]); (try simp only [rowSet_fB hp]))) | refine aE ?_ fun hp => ?_ | refine aC ?_ fun hp => ?_ | refine And.intro ?_ ?_ | clear hK K | clear hX hY X Y | clear hL L)
      all_goals omega
    · have e : b.list kind = b.notes := by simp [Bank.list, hd]
      have h8' : sum ≤ b.notes.getD (src - 1).toNat 0 := by simpa [-List.getD_eq_getElem?_getD, Bank.at, e] using h8
      have q12 := parts_set q2 (i := (src - 1).toNat) (v := b.notes.getD (src - 1).toNat 0 - sum) (by omega)
      have q13 := parts_get q12 (dst - 1).toNat
      refine CallX.of tok Tryz.func100 rfl rfl Tryz.ntmps100 Tryz.results100 rfl (by decide) (fun cx hnt hk0 => ?_)
      repeat' (first | refine AWp.seq fun K hK => ?_ | refine hK _ ?_; clear hK K | refine hX ?_; clear hX hY X Y | refine hY ?_; clear hX hY X Y | refine AWp.block ?_ | refine hL _ _ ?_ | ((first | refine AWp.region tok (by rw [hnt]; rfl) ?_ | refine AWp.cond' fun X Y hX hY => ?_ | refine AWp.skip ?_ | refine AWp.exit ?_ | refine AWp.ret ?_ | refine Fin.auto [] ?_ | refine runS_c [] (BankOk_ok b (by omega) (by omega) h3) rfl ?_ ?_ ?_ | refine runS_c [] (l6In_ok _ _ _) rfl ?_ ?_ ?_ | refine runS_c [] (l1User_ok _) rfl ?_ ?_ ?_ | refine runS_c [] (l1List_tree b kind) rfl ?_ ?_ ?_ | refine runS_c [] (l1Copy_ok b h1 h2) rfl ?_ ?_ ?_ | refine runS_c [_, _] (l1List_note b kind hd) rfl ?_ ?_ ?_ | ((first | apply gR | apply gC) <;> intro hq <;> (try simp only [nT, nF, n1, n0] at hq) <;> (have hb := hq) <;> (try simp only [dT, dF, eT, eF] at hb) <;> first | (exfalso; omega) | ((try simp only [hq]); clear hq))) <;> (try simp only [go_sem, qa, qb, qc, qd, qe, qf, qg, qh, qi, qj, qk, ql, qm, qn, qo, qp, qq, qr, qs, reduceIte, reduceCtorEq, hb, h4, h5, h6, e, Bank.moveD, Bank.dec, Bank.add, Bank.put, Bank.list, Bank.at, if_neg hd])) | refine Fits.of ?_ ?_ | (refine aL ?_ (fun hp => ?_) <;> ((try simp only [rowSet_fI hp, rowSet_fI2 hp]); (try simp only [rowSet_fB hp]))) | refine aE ?_ fun hp => ?_ | refine aC ?_ fun hp => ?_ | refine And.intro ?_ ?_ | clear hK K | clear hX hY X Y | clear hL L)
      all_goals omega
end Go.Hw
/- What is proved: what the reference takes away from a bank, gives back, and moves. -/
set_option linter.all false
set_option maxRecDepth 100000
set_option maxHeartbeats 4000000
namespace Go.Hw
open Go.Proofs
open Nat renaming reduceDiv → qa, reduceMod → qb, reduceAdd → qc, reduceMul → qd, reduceSub → qe, reduceLeDiff → qf, reduceBEq → qg, reduceEqDiff → qh, reduceBeqDiff → qi, reduceLT → qj
open Int renaming reduceToNat → qk, reduceAdd → ql, reduceSub → qm, reduceNeg → qn, reduceLT → qo, reduceLE → qp, reduceEq → qq, reduceBEq → qr, reduceBNe → qs
open Go.Hw renaming runG_split → gR, condG_split → gC, takG_split → gT, effG_split → gE
theorem l1Away_ok (b : Bank) (kind src sum : Int) (hb : b.ok = true) (hs : In src 1 3 = true) (h0 : 0 ≤ sum) (h9 : sum ≤ 1000) :
    Call Tryz.prog 130 [.g (bankA b 0), I kind, I src, I sum] (bankH b 0) 2 (.tup [.g (bankA (b.away kind src sum) 2), BB (b.awayB kind src sum)]) (bankH (b.away kind src sum) 2) 4 := by
  obtain ⟨q1, q2, q3, q4, q5⟩ := bank_ok hb
  have q6 := parts_len q1
  have q7 := parts_len q2
  have q8 := parts_get q1 (src - 1).toNat
  have q9 := parts_get q2 (src - 1).toNat
  have q10 := parts_all q1
  rw [In_iff] at hs
  unfold Bank.away
  by_cases hd : kind = 1
  · cases hA : b.awayB kind src sum
    · have hA2 : b.own.getD (src - 1).toNat 0 < sum := by simpa [-List.getD_eq_getElem?_getD, Bank.awayB, Bank.at, Bank.list, hd] using hA
      refine CallX.of tok Tryz.func130 rfl rfl Tryz.ntmps130 Tryz.results130 rfl (by decide) (fun cx hnt hk0 => ?_)
      repeat' (first | refine AWp.seq fun K hK => ?_ | refine hK _ ?_; clear hK K | refine hX ?_; clear hX hY X Y | refine hY ?_; clear hX hY X Y | refine AWp.block ?_ | refine hL _ _ ?_ | ((first | refine AWp.region tok (by rw [hnt]; rfl) ?_ | refine AWp.cond' fun X Y hX hY => ?_ | refine AWp.skip ?_ | refine AWp.exit ?_ | refine AWp.ret ?_ | refine Fin.auto [] ?_ | refine runS_c [_, _] (l1List_own b kind hd) rfl ?_ ?_ ?_ | ((first | apply gR | apply gC) <;> intro hq <;> (try simp only [nT, nF, n1, n0] at hq) <;> (have hb := hq) <;> (try simp only [dT, dF, eT, eF] at hb) <;> first | (exfalso; omega) | ((try simp only [hq]); clear hq))) <;> (try simp only [go_sem, qa, qb, qc, qd, qe, qf, qg, qh, qi, qj, qk, ql, qm, qn, qo, qp, qq, qr, qs, reduceIte, reduceCtorEq, Bool.false_eq_true])) | refine Fits.of ?_ ?_ | (refine aL ?_ (fun hp => ?_) <;> ((try simp only [rowSet_fI hp, rowSet_fI2 hp]); (try simp only [rowSet_fB hp]))) | refine aE ?_ fun hp => ?_ | refine aC ?_ fun hp => ?_ | refine And.intro ?_ ?_ | clear hK K | clear hX hY X Y | clear hL L)
      all_goals omega
    · have hA2 : sum ≤ b.own.getD (src - 1).toNat 0 := by simpa [-List.getD_eq_getElem?_getD, Bank.awayB, Bank.at, Bank.list, hd] using hA
      refine CallX.of tok Tryz.func130 rfl rfl Tryz.ntmps130 Tryz.results130 rfl (by decide) (fun cx hnt hk0 => ?_)
      repeat' (first | refine AWp.seq fun K hK => ?_ | refine hK _ ?_; clear hK K | refine hX ?_; clear hX hY X Y | refine hY ?_; clear hX hY X Y | refine AWp.block ?_ | refine hL _ _ ?_ | ((first | refine AWp.region tok (by rw [hnt]; rfl) ?_ | refine AWp.cond' fun X Y hX hY => ?_ | refine AWp.skip ?_ | refine AWp.exit ?_ | refine AWp.ret ?_ | refine Fin.auto [] ?_ | refine runS_c [_, _] (l1List_own b kind hd) rfl ?_ ?_ ?_ | ((first | apply gR | apply gC) <;> intro hq <;> (try simp only [nT, nF, n1, n0] at hq) <;> (have hb := hq) <;> (try simp only [dT, dF, eT, eF] at hb) <;> first | (exfalso; omega) | ((try simp only [hq]); clear hq))) <;> (try simp only [go_sem, qa, qb, qc, qd, qe, qf, qg, qh, qi, qj, qk, ql, qm, qn, qo, qp, qq, qr, qs, reduceIte, reduceCtorEq, Bank.awayD, Bank.dec, Bank.put, Bank.list, Bank.at, if_pos hd])) | refine Fits.of ?_ ?_ | (refine aL ?_ (fun hp => ?_) <;> ((try simp only [rowSet_fI hp, rowSet_fI2 hp]); (try simp only [rowSet_fB hp]))) | refine aE ?_ fun hp => ?_ | refine aC ?_ fun hp => ?_ | refine And.intro ?_ ?_ | clear hK K | clear hX hY X Y | clear hL L)
      all_goals omega
  · cases hA : b.awayB kind src sum
    · have hA2 : b.notes.getD (src - 1).toNat 0 < sum := by simpa [-List.getD_eq_getElem?_getD, Bank.awayB, Bank.at, Bank.list, hd] using hA
      refine CallX.of tok Tryz.func130 rfl rfl Tryz.ntmps130 Tryz.results130 rfl (by decide) (fun cx hnt hk0 => ?_)
      repeat' (first | refine AWp.seq fun K hK => ?_ | refine hK _ ?_; clear hK K | refine hX ?_; clear hX hY X Y | refine hY ?_; clear hX hY X Y | refine AWp.block ?_ | refine hL _ _ ?_ | ((first | refine AWp.region tok (by rw [hnt]; rfl) ?_ | refine AWp.cond' fun X Y hX hY => ?_ | refine AWp.skip ?_ | refine AWp.exit ?_ | refine AWp.ret ?_ | refine Fin.auto [] ?_ | refine runS_c [_, _] (l1List_note b kind hd) rfl ?_ ?_ ?_ | ((first | apply gR | apply gC) <;> intro hq <;> (try simp only [nT, nF, n1, n0] at hq) <;> (have hb := hq) <;> (try simp only [dT, dF, eT, eF] at hb) <;> first | (exfalso; omega) | ((try simp only [hq]); clear hq))) <;> (try simp only [go_sem, qa, qb, qc, qd, qe, qf, qg, qh, qi, qj, qk, ql, qm, qn, qo, qp, qq, qr, qs, reduceIte, reduceCtorEq, Bool.false_eq_true])) | refine Fits.of ?_ ?_ | (refine aL ?_ (fun hp => ?_) <;> ((try simp only [rowSet_fI hp, rowSet_fI2 hp]); (try simp only [rowSet_fB hp]))) | refine aE ?_ fun hp => ?_ | refine aC ?_ fun hp => ?_ | refine And.intro ?_ ?_ | clear hK K | clear hX hY X Y | clear hL L)
      all_goals omega
    · have hA2 : sum ≤ b.notes.getD (src - 1).toNat 0 := by simpa [-List.getD_eq_getElem?_getD, Bank.awayB, Bank.at, Bank.list, hd] using hA
      refine CallX.of tok Tryz.func130 rfl rfl Tryz.ntmps130 Tryz.results130 rfl (by decide) (fun cx hnt hk0 => ?_)
      repeat' (first | refine AWp.seq fun K hK => ?_ | refine hK _ ?_; clear hK K | refine hX ?_; clear hX hY X Y | refine hY ?_; clear hX hY X Y | refine AWp.block ?_ | refine hL _ _ ?_ | ((first | refine AWp.region tok (by rw [hnt]; rfl) ?_ | refine AWp.cond' fun X Y hX hY => ?_ | refine AWp.skip ?_ | refine AWp.exit ?_ | refine AWp.ret ?_ | refine Fin.auto [] ?_ | refine runS_c [_, _] (l1List_note b kind hd) rfl ?_ ?_ ?_ | ((first | apply gR | apply gC) <;> intro hq <;> (try simp only [nT, nF, n1, n0] at hq) <;> (have hb := hq) <;> (try simp only [dT, dF, eT, eF] at hb) <;> first | (exfalso; omega) | ((try simp only [hq]); clear hq))) <;> (try simp only [go_sem, qa, qb, qc, qd, qe, qf, qg, qh, qi, qj, qk, ql, qm, qn, qo, qp, qq, qr, qs, reduceIte, reduceCtorEq, Bank.awayD, Bank.dec, Bank.put, Bank.list, Bank.at, if_neg hd])) | refine Fits.of ?_ ?_ | (refine aL ?_ (fun hp => ?_) <;> ((try simp only [rowSet_fI hp, rowSet_fI2 hp]); (try simp only [rowSet_fB hp]))) | refine aE ?_ fun hp => ?_ | refine aC ?_ fun hp => ?_ | refine And.intro ?_ ?_ | clear hK K | clear hX hY X Y | clear hL L)
      all_goals omega
theorem l1Away_no (b : Bank) (kind src sum : Int) (ok1 : b.ok = true) (hs : In src 1 3 = true) (hA : b.awayB kind src sum = false) :
    Call Tryz.prog 130 [.g (bankA b 0), I kind, I src, I sum] (bankH b 0) 2 (.tup [.g (bankA b 0), BB false]) (bankH b 0) 2 := by
  obtain ⟨q1, q2, q3, q4, q5⟩ := bank_ok ok1
  have q6 := parts_len q1
  have q7 := parts_len q2
  rw [In_iff] at hs
  by_cases hd : kind = 1
  · have hA2 : b.own.getD (src - 1).toNat 0 < sum := by simpa [-List.getD_eq_getElem?_getD, Bank.awayB, Bank.at, Bank.list, hd] using hA
    refine CallX.of tok Tryz.func130 rfl rfl Tryz.ntmps130 Tryz.results130 rfl (by decide) (fun cx hnt hk0 => ?_)
    repeat' (first | refine AWp.seq fun K hK => ?_ | refine hK _ ?_; clear hK K | refine hX ?_; clear hX hY X Y | refine hY ?_; clear hX hY X Y | refine AWp.block ?_ | refine hL _ _ ?_ | ((first | refine AWp.region tok (by rw [hnt]; rfl) ?_ | refine AWp.cond' fun X Y hX hY => ?_ | refine AWp.skip ?_ | refine AWp.exit ?_ | refine AWp.ret ?_ | refine Fin.auto [] ?_ | refine runS_c [_, _] (l1List_own b kind hd) rfl ?_ ?_ ?_ | ((first | apply gR | apply gC) <;> intro hq <;> (try simp only [nT, nF, n1, n0] at hq) <;> (have hb := hq) <;> (try simp only [dT, dF, eT, eF] at hb) <;> first | (exfalso; omega) | ((try simp only [hq]); clear hq))) <;> (try simp only [go_sem, qa, qb, qc, qd, qe, qf, qg, qh, qi, qj, qk, ql, qm, qn, qo, qp, qq, qr, qs, reduceIte, reduceCtorEq])) | refine Fits.of ?_ ?_ | (refine aL ?_ (fun hp => ?_) <;> ((try simp only [rowSet_fI hp, rowSet_fI2 hp]); (try simp only [rowSet_fB hp]))) | refine aE ?_ fun hp => ?_ | refine aC ?_ fun hp => ?_ | refine And.intro ?_ ?_ | clear hK K | clear hX hY X Y | clear hL L)
    all_goals omega
  · have hA2 : b.notes.getD (src - 1).toNat 0 < sum := by simpa [-List.getD_eq_getElem?_getD, Bank.awayB, Bank.at, Bank.list, hd] using hA
    refine CallX.of tok Tryz.func130 rfl rfl Tryz.ntmps130 Tryz.results130 rfl (by decide) (fun cx hnt hk0 => ?_)
    repeat' (first | refine AWp.seq fun K hK => ?_ | refine hK _ ?_; clear hK K | refine hX ?_; clear hX hY X Y | refine hY ?_; clear hX hY X Y | refine AWp.block ?_ | refine hL _ _ ?_ | ((first | refine AWp.region tok (by rw [hnt]; rfl) ?_ | refine AWp.cond' fun X Y hX hY => ?_ | refine AWp.skip ?_ | refine AWp.exit ?_ | refine AWp.ret ?_ | refine Fin.auto [] ?_ | refine runS_c [_, _] (l1List_note b kind hd) rfl ?_ ?_ ?_ | ((first | apply gR | apply gC) <;> intro hq <;> (try simp only [nT, nF, n1, n0] at hq) <;> (have hb := hq) <;> (try simp only [dT, dF, eT, eF] at hb) <;> first | (exfalso; omega) | ((try simp only [hq]); clear hq))) <;> (try simp only [go_sem, qa, qb, qc, qd, qe, qf, qg, qh, qi, qj, qk, ql, qm, qn, qo, qp, qq, qr, qs, reduceIte, reduceCtorEq])) | refine Fits.of ?_ ?_ | (refine aL ?_ (fun hp => ?_) <;> ((try simp only [rowSet_fI hp, rowSet_fI2 hp]); (try simp only [rowSet_fB hp]))) | refine aE ?_ fun hp => ?_ | refine aC ?_ fun hp => ?_ | refine And.intro ?_ ?_ | clear hK K | clear hX hY X Y | clear hL L)
    all_goals omega
end Go.Hw
/- What is proved: what the reference gives back to a bank, and moves in it. -/
set_option linter.all false
set_option maxRecDepth 100000
set_option maxHeartbeats 4000000
namespace Go.Hw
open Go.Proofs
open Nat renaming reduceDiv → qa, reduceMod → qb, reduceAdd → qc, reduceMul → qd, reduceSub → qe, reduceLeDiff → qf, reduceBEq → qg, reduceEqDiff → qh, reduceBeqDiff → qi, reduceLT → qj
open Int renaming reduceToNat → qk, reduceAdd → ql, reduceSub → qm, reduceNeg → qn, reduceLT → qo, reduceLE → qp, reduceEq → qq, reduceBEq → qr, reduceBNe → qs
open Go.Hw renaming runG_split → gR, condG_split → gC, takG_split → gT, effG_split → gE
theorem l1Back_ok (b : Bank) (kind dst sum : Int) (hb : b.ok = true) (hs : In dst 1 3 = true) (hk : In kind 1 2 = true) (h0 : 0 ≤ sum) (h9 : sum ≤ 1000) :
    Call Tryz.prog 153 [.g (bankA b 0), I kind, I dst, I sum] (bankH b 0) 2 (.tup [.g (bankA (b.back kind dst sum) 2), BB (b.backB kind dst sum)]) (bankH (b.back kind dst sum) 2) 4 := by
  obtain ⟨q1, q2, q3, q4, q5⟩ := bank_ok hb
  have q6 := parts_len q1
  have q7 := parts_len q2
  have q8 := parts_get q1 (dst - 1).toNat
  have q9 := parts_get q2 (dst - 1).toNat
  have q10 := parts_all q1
  have q11 := parts_all q2
  rw [In_iff] at hs hk
  unfold Bank.back
  by_cases hd : kind = 1
  · cases hA : b.backB kind dst sum
    · have hA2 : b.locked < sum := by simpa [Bank.backB, hd] using hA
      clear hk
      refine CallX.of tok Tryz.func153 rfl rfl Tryz.ntmps153 Tryz.results153 rfl (by decide) (fun cx hnt hk0 => ?_)
      repeat' (first | refine AWp.seq fun K hK => ?_ | refine hK _ ?_; clear hK K | refine hX ?_; clear hX hY X Y | refine hY ?_; clear hX hY X Y | refine AWp.block ?_ | refine hL _ _ ?_ | ((first | refine AWp.region tok (by rw [hnt]; rfl) ?_ | refine AWp.cond' fun X Y hX hY => ?_ | refine AWp.skip ?_ | refine AWp.exit ?_ | refine AWp.ret ?_ | refine Fin.auto [] ?_ | refine runS_c [_, _] (l1List_own b kind hd) rfl ?_ ?_ ?_ | ((first | apply gR | apply gC) <;> intro hq <;> (try simp only [nT, nF, n1, n0] at hq) <;> (have hb := hq) <;> (try simp only [dT, dF, eT, eF] at hb) <;> first | (exfalso; omega) | ((try simp only [hq]); clear hq))) <;> (try simp only [go_sem, qa, qb, qc, qd, qe, qf, qg, qh, qi, qj, qk, ql, qm, qn, qo, qp, qq, qr, qs, reduceIte, reduceCtorEq, Bool.false_eq_true])) | refine Fits.of ?_ ?_ | (refine aL ?_ (fun hp => ?_) <;> ((try simp only [rowSet_fI hp, rowSet_fI2 hp]); (try simp only [rowSet_fB hp]))) | refine aE ?_ fun hp => ?_ | refine aC ?_ fun hp => ?_ | refine And.intro ?_ ?_ | clear hK K | clear hX hY X Y | clear hL L)
      all_goals try omega
    · have hA2 : sum ≤ b.locked := by simpa [Bank.backB, hd] using hA
      clear hk
      refine CallX.of tok Tryz.func153 rfl rfl Tryz.ntmps153 Tryz.results153 rfl (by decide) (fun cx hnt hk0 => ?_)
      repeat' (first | refine AWp.seq fun K hK => ?_ | refine hK _ ?_; clear hK K | refine hX ?_; clear hX hY X Y | refine hY ?_; clear hX hY X Y | refine AWp.block ?_ | refine hL _ _ ?_ | ((first | refine AWp.region tok (by rw [hnt]; rfl) ?_ | refine AWp.cond' fun X Y hX hY => ?_ | refine AWp.skip ?_ | refine AWp.exit ?_ | refine AWp.ret ?_ | refine Fin.auto [] ?_ | refine runS_c [_, _] (l1List_own b kind hd) rfl ?_ ?_ ?_ | ((first | apply gR | apply gC) <;> intro hq <;> (try simp only [nT, nF, n1, n0] at hq) <;> (have hb := hq) <;> (try simp only [dT, dF, eT, eF] at hb) <;> first | (exfalso; omega) | ((try simp only [hq]); clear hq))) <;> (try simp only [go_sem, qa, qb, qc, qd, qe, qf, qg, qh, qi, qj, qk, ql, qm, qn, qo, qp, qq, qr, qs, reduceIte, reduceCtorEq, Bank.backD, Bank.add, Bank.put, Bank.list, Bank.at, if_pos hd])) | refine Fits.of ?_ ?_ | (refine aL ?_ (fun hp => ?_) <;> ((try simp only [rowSet_fI hp, rowSet_fI2 hp]); (try simp only [rowSet_fB hp]))) | refine aE ?_ fun hp => ?_ | refine aC ?_ fun hp => ?_ | refine And.intro ?_ ?_ | clear hK K | clear hX hY X Y | clear hL L)
      all_goals try omega
  · have hd2 : kind = 2 := by omega
    cases hA : b.backB kind dst sum
    · have hA2 : 30 < isum b.notes + sum := by simpa [Bank.backB, hd2] using hA
      clear hk
      refine CallX.of tok Tryz.func153 rfl rfl Tryz.ntmps153 Tryz.results153 rfl (by decide) (fun cx hnt hk0 => ?_)
      repeat' (first | refine AWp.seq fun K hK => ?_ | refine hK _ ?_; clear hK K | refine hX ?_; clear hX hY X Y | refine hY ?_; clear hX hY X Y | refine AWp.block ?_ | refine hL _ _ ?_ | ((first | refine AWp.region tok (by rw [hnt]; rfl) ?_ | refine AWp.cond' fun X Y hX hY => ?_ | refine AWp.skip ?_ | refine AWp.exit ?_ | refine AWp.ret ?_ | refine Fin.auto [] ?_ | refine runS_c [_, _] (l1List_note b kind hd) rfl ?_ ?_ ?_ | refine runS_v [] (l1All_ok b.notes q2) ?_ ?_ ?_ ?_ ?_ | ((first | apply gR | apply gC) <;> intro hq <;> (try simp only [nT, nF, n1, n0] at hq) <;> (have hb := hq) <;> (try simp only [dT, dF, eT, eF] at hb) <;> first | (exfalso; omega) | ((try simp only [hq]); clear hq))) <;> (try simp only [go_sem, qa, qb, qc, qd, qe, qf, qg, qh, qi, qj, qk, ql, qm, qn, qo, qp, qq, qr, qs, reduceIte, reduceCtorEq, Bool.false_eq_true])) | refine Fits.of ?_ ?_ | (refine aL ?_ (fun hp => ?_) <;> ((try simp only [rowSet_fI hp, rowSet_fI2 hp]); (try simp only [rowSet_fB hp]))) | refine aE ?_ fun hp => ?_ | refine aC ?_ fun hp => ?_ | refine And.intro ?_ ?_ | clear hK K | clear hX hY X Y | clear hL L)
      all_goals try omega
    · have hA2 : isum b.notes + sum ≤ 30 := by simpa [Bank.backB, hd2] using hA
      clear hk
      refine CallX.of tok Tryz.func153 rfl rfl Tryz.ntmps153 Tryz.results153 rfl (by decide) (fun cx hnt hk0 => ?_)
      repeat' (first | refine AWp.seq fun K hK => ?_ | refine hK _ ?_; clear hK K | refine hX ?_; clear hX hY X Y | refine hY ?_; clear hX hY X Y | refine AWp.block ?_ | refine hL _ _ ?_ | ((first | refine AWp.region tok (by rw [hnt]; rfl) ?_ | refine AWp.cond' fun X Y hX hY => ?_ | refine AWp.skip ?_ | refine AWp.exit ?_ | refine AWp.ret ?_ | refine Fin.auto [] ?_ | refine runS_c [_, _] (l1List_note b kind hd) rfl ?_ ?_ ?_ | refine runS_v [] (l1All_ok b.notes q2) ?_ ?_ ?_ ?_ ?_ | ((first | apply gR | apply gC) <;> intro hq <;> (try simp only [nT, nF, n1, n0] at hq) <;> (have hb := hq) <;> (try simp only [dT, dF, eT, eF] at hb) <;> first | (exfalso; omega) | ((try simp only [hq]); clear hq))) <;> (try simp only [go_sem, qa, qb, qc, qd, qe, qf, qg, qh, qi, qj, qk, ql, qm, qn, qo, qp, qq, qr, qs, reduceIte, reduceCtorEq, Bank.backD, Bank.add, Bank.put, Bank.list, Bank.at, if_neg hd])) | refine Fits.of ?_ ?_ | (refine aL ?_ (fun hp => ?_) <;> ((try simp only [rowSet_fI hp, rowSet_fI2 hp]); (try simp only [rowSet_fB hp]))) | refine aE ?_ fun hp => ?_ | refine aC ?_ fun hp => ?_ | refine And.intro ?_ ?_ | clear hK K | clear hX hY X Y | clear hL L)
      all_goals try omega
theorem l1Back_no (b : Bank) (kind dst sum : Int) (ok1 : b.ok = true) (hs : In dst 1 3 = true) (hA : b.backB kind dst sum = false) (h0 : 0 ≤ sum) (h9 : sum ≤ 1000) :
    Call Tryz.prog 153 [.g (bankA b 0), I kind, I dst, I sum] (bankH b 0) 2 (.tup [.g (bankA b 0), BB false]) (bankH b 0) 2 := by
  obtain ⟨q1, q2, q3, q4, q5⟩ := bank_ok ok1
  have q6 := parts_len q1
  have q7 := parts_len q2
  have q11 := parts_all q2
  rw [In_iff] at hs
  by_cases hd : kind = 1
  · have hA2 : b.locked < sum := by simpa [Bank.backB, hd] using hA
    refine CallX.of tok Tryz.func153 rfl rfl Tryz.ntmps153 Tryz.results153 rfl (by decide) (fun cx hnt hk0 => ?_)
    repeat' (first | refine AWp.seq fun K hK => ?_ | refine hK _ ?_; clear hK K | refine hX ?_; clear hX hY X Y | refine hY ?_; clear hX hY X Y | refine AWp.block ?_ | refine hL _ _ ?_ | ((first | refine AWp.region tok (by rw [hnt]; rfl) ?_ | refine AWp.cond' fun X Y hX hY => ?_ | refine AWp.skip ?_ | refine AWp.exit ?_ | refine AWp.ret ?_ | refine Fin.auto [] ?_ | ((first | apply gR | apply gC) <;> intro hq <;> (try simp only [nT, nF, n1, n0] at hq) <;> (have hb := hq) <;> (try simp only [dT, dF, eT, eF] at hb) <;> first | (exfalso; omega) | ((try simp only [hq]); clear hq))) <;> (try simp only [go_sem, qa, qb, qc, qd, qe, qf, qg, qh, qi, qj, qk, ql, qm, qn, qo, qp, qq, qr, qs, reduceIte, reduceCtorEq])) | refine Fits.of ?_ ?_ | (refine aL ?_ (fun hp => ?_) <;> ((try simp only [rowSet_fI hp, rowSet_fI2 hp]); (try simp only [rowSet_fB hp]))) | refine aE ?_ fun hp => ?_ | refine aC ?_ fun hp => ?_ | refine And.intro ?_ ?_ | clear hK K | clear hX hY X Y | clear hL L)
    all_goals omega
  · have hd2 : kind = 2 := by
      by_cases h : kind = 2
      · exact h
      · simp [Bank.backB, hd, h] at hA
    have hA2 : 30 < isum b.notes + sum := by simpa [Bank.backB, hd2] using hA
    refine CallX.of tok Tryz.func153 rfl rfl Tryz.ntmps153 Tryz.results153 rfl (by decide) (fun cx hnt hk0 => ?_)
    repeat' (first | refine AWp.seq fun K hK => ?_ | refine hK _ ?_; clear hK K | refine hX ?_; clear hX hY X Y | refine hY ?_; clear hX hY X Y | refine AWp.block ?_ | refine hL _ _ ?_ | ((first | refine AWp.region tok (by rw [hnt]; rfl) ?_ | refine AWp.cond' fun X Y hX hY => ?_ | refine AWp.skip ?_ | refine AWp.exit ?_ | refine AWp.ret ?_ | refine Fin.auto [] ?_ | refine runS_v [] (l1All_ok b.notes q2) ?_ ?_ ?_ ?_ ?_ | ((first | apply gR | apply gC) <;> intro hq <;> (try simp only [nT, nF, n1, n0] at hq) <;> (have hb := hq) <;> (try simp only [dT, dF, eT, eF] at hb) <;> first | (exfalso; omega) | ((try simp only [hq]); clear hq))) <;> (try simp only [go_sem, qa, qb, qc, qd, qe, qf, qg, qh, qi, qj, qk, ql, qm, qn, qo, qp, qq, qr, qs, reduceIte, reduceCtorEq])) | refine Fits.of ?_ ?_ | (refine aL ?_ (fun hp => ?_) <;> ((try simp only [rowSet_fI hp, rowSet_fI2 hp]); (try simp only [rowSet_fB hp]))) | refine aE ?_ fun hp => ?_ | refine aC ?_ fun hp => ?_ | refine And.intro ?_ ?_ | clear hK K | clear hX hY X Y | clear hL L)
    all_goals omega
end Go.Hw
