/- What is proved here: parts W42, W43, W44 of the walk of the law and of its plain side; no condition but those that each theorem states. -/
import Derived.Test.YtcbceacjhmblnaaGreatE1
/- What is proved: what the program takes away of a bank, gives back and moves. -/
set_option linter.all false
set_option maxRecDepth 100000
set_option maxHeartbeats 4000000
namespace Go.Hw
open Go.Proofs
open Nat renaming reduceDiv → qa, reduceMod → qb, reduceAdd → qc, reduceMul → qd, reduceSub → qe, reduceLeDiff → qf, reduceBEq → qg, reduceEqDiff → qh, reduceBeqDiff → qi, reduceLT → qj
open Int renaming reduceToNat → qk, reduceAdd → ql, reduceSub → qm, reduceNeg → qn, reduceLT → qo, reduceLE → qp, reduceEq → qq, reduceBEq → qr, reduceBNe → qs
open Go.Hw renaming runG_split → gR, condG_split → gC, takG_split → gT, effG_split → gE
def Bank.takeB (b : Bank) (kind src sum : Int) : Bool := b.ok && (In kind 1 2 && (In src 1 3 && (decide (0 ≤ sum) && b.awayB kind src sum)))
def Bank.taken (b : Bank) (kind src sum : Int) : Bank := if b.takeB kind src sum then b.awayD kind src sum else Bank.none
def Bank.giveB (b : Bank) (kind dst sum : Int) : Bool := b.ok && (In kind 1 2 && (In dst 1 3 && (decide (0 ≤ sum) && (decide (sum ≤ 30) && b.backB kind dst sum))))
def Bank.given (b : Bank) (kind dst sum : Int) : Bank := if b.giveB kind dst sum then b.backD kind dst sum else Bank.none
theorem In12_no {kind : Int} (h1 : ¬ kind = 1) (h2 : ¬ kind = 2) : In kind 1 2 = false := by
  cases h : In kind 1 2 with
  | false => rfl
  | true => rw [In_iff] at h; omega
theorem iBankAway_no (b : Bank) (kind src sum : Int) (h1 : b.own.length ≤ 1000) (h2 : b.notes.length ≤ 1000) (h3 : b.locked < 1099511627776) (h : b.takeB kind src sum = false) :
    Call Tryz.prog 85 [b.av, I kind, I src, I sum] [] 0 (.tup [.g (bankA Bank.none 0), BB false]) (bankH Bank.none 0) 2 := by
  by_cases hg : b.ok = true ∧ In kind 1 2 = true ∧ In src 1 3 = true ∧ 0 ≤ sum
  · obtain ⟨gb, gk, gs, g0⟩ := hg
    obtain ⟨q1, q2, q3, q4, q5⟩ := bank_ok gb
    have q6 := parts_len q1
    have q7 := parts_len q2
    have gA : ¬ sum ≤ b.at kind src := by
      simp only [Bank.takeB, gb, gk, gs, Bool.true_and, decide_eq_true g0] at h
      simpa [Bank.awayB] using h
    have gs' := gs
    rw [In_iff] at gk gs'
    have s1 := some_mE (l := b.own) (k := src) (by omega) (by omega)
    have s2 := some_mE (l := b.notes) (k := src) (by omega) (by omega)
    have l1 := lk_mE (l := b.own) (k := src) (by omega) (by omega)
    have l2 := lk_mE (l := b.notes) (k := src) (by omega) (by omega)
    by_cases hd : kind = 1
    · have gA : ¬ sum ≤ b.own.getD (src - 1).toNat 0 := by simpa only [Bank.at, Bank.list, if_pos hd] using gA
      refine CallX.of tok Tryz.func85 rfl rfl Tryz.ntmps85 Tryz.results85 rfl (by decide) (fun cx hnt hk0 => ?_)
      repeat' (first | refine AWp.seq fun K hK => ?_ | refine hK _ ?_; clear hK K | refine hX ?_; clear hX hY X Y | refine hY ?_; clear hX hY X Y | refine AWp.block ?_ | refine hL _ _ ?_ | ((first | refine AWp.region tok (by rw [hnt]; rfl) ?_ | refine AWp.cond' fun X Y hX hY => ?_ | refine AWp.skip ?_ | refine AWp.exit ?_ | refine AWp.ret ?_ | refine Fin.auto [] ?_ | refine runS_c [] (iBankOk_ok b (by omega) (by omega) h3) rfl ?_ ?_ ?_ | refine runS_c [] (userOk_ok _) rfl ?_ ?_ ?_ | refine runS_c [] (coinsOf_own kind hd) rfl ?_ ?_ ?_ | refine runS_c [] (ledgerOf_ok b q6 q7) rfl ?_ ?_ ?_ | refine runS_c [2, 3] (ownCoins_ok _) rfl ?_ ?_ ?_ | ((first | apply gR | apply gC) <;> intro hq <;> (try simp only [nT, nF, n1, n0] at hq) <;> (have hb := hq) <;> (try simp only [dT, dF, eT, eF] at hb) <;> first | (exfalso; omega) | ((try simp only [hq]); clear hq))) <;> (try simp only [go_sem, qa, qb, qc, qd, qe, qf, qg, qh, qi, qj, qk, ql, qm, qn, qo, qp, qq, qr, qs, reduceIte, reduceCtorEq, gb, gs, s1, l1, Bank.none])) | refine Fits.of ?_ ?_ | (refine aL ?_ (fun hp => ?_) <;> ((try simp only [rowSet_fI hp, rowSet_fI2 hp]); (try simp only [rowSet_fB hp]))) | refine aE ?_ fun hp => ?_ | refine aC ?_ fun hp => ?_ | refine And.intro ?_ ?_ | clear hK K | clear hX hY X Y | clear hL L)
      all_goals try omega
    · have gA : ¬ sum ≤ b.notes.getD (src - 1).toNat 0 := by simpa only [Bank.at, Bank.list, if_neg hd] using gA
      refine CallX.of tok Tryz.func85 rfl rfl Tryz.ntmps85 Tryz.results85 rfl (by decide) (fun cx hnt hk0 => ?_)
      repeat' (first | refine AWp.seq fun K hK => ?_ | refine hK _ ?_; clear hK K | refine hX ?_; clear hX hY X Y | refine hY ?_; clear hX hY X Y | refine AWp.block ?_ | refine hL _ _ ?_ | ((first | refine AWp.region tok (by rw [hnt]; rfl) ?_ | refine AWp.cond' fun X Y hX hY => ?_ | refine AWp.skip ?_ | refine AWp.exit ?_ | refine AWp.ret ?_ | refine Fin.auto [] ?_ | refine runS_c [] (iBankOk_ok b (by omega) (by omega) h3) rfl ?_ ?_ ?_ | refine runS_c [] (userOk_ok _) rfl ?_ ?_ ?_ | refine runS_c [] (coinsOf_note kind (by omega)) rfl ?_ ?_ ?_ | refine runS_c [] (ledgerOf_ok b q6 q7) rfl ?_ ?_ ?_ | refine runS_c [2, 3] (noteCoins_ok _) rfl ?_ ?_ ?_ | ((first | apply gR | apply gC) <;> intro hq <;> (try simp only [nT, nF, n1, n0] at hq) <;> (have hb := hq) <;> (try simp only [dT, dF, eT, eF] at hb) <;> first | (exfalso; omega) | ((try simp only [hq]); clear hq))) <;> (try simp only [go_sem, qa, qb, qc, qd, qe, qf, qg, qh, qi, qj, qk, ql, qm, qn, qo, qp, qq, qr, qs, reduceIte, reduceCtorEq, gb, gs, s2, l2, Bank.none])) | refine Fits.of ?_ ?_ | (refine aL ?_ (fun hp => ?_) <;> ((try simp only [rowSet_fI hp, rowSet_fI2 hp]); (try simp only [rowSet_fB hp]))) | refine aE ?_ fun hp => ?_ | refine aC ?_ fun hp => ?_ | refine And.intro ?_ ?_ | clear hK K | clear hX hY X Y | clear hL L)
      all_goals try omega
  · by_cases hk1 : kind = 1
    · have gk : In kind 1 2 = true := by rw [In_iff]; omega
      refine CallX.of tok Tryz.func85 rfl rfl Tryz.ntmps85 Tryz.results85 rfl (by decide) (fun cx hnt hk0 => ?_)
      repeat' (first | refine AWp.seq fun K hK => ?_ | refine hK _ ?_; clear hK K | refine hX ?_; clear hX hY X Y | refine hY ?_; clear hX hY X Y | refine AWp.block ?_ | refine hL _ _ ?_ | ((first | refine AWp.region tok (by rw [hnt]; rfl) ?_ | refine AWp.cond' fun X Y hX hY => ?_ | refine AWp.skip ?_ | refine AWp.exit ?_ | refine AWp.ret ?_ | refine Fin.auto [] ?_ | refine runS_c [] (iBankOk_ok b (by omega) (by omega) h3) rfl ?_ ?_ ?_ | refine runS_c [] (userOk_ok _) rfl ?_ ?_ ?_ | refine runS_c [] (coinsOf_own kind hk1) rfl ?_ ?_ ?_ | ((first | apply gR | apply gC) <;> intro hq <;> (try simp only [nT, nF, n1, n0] at hq) <;> (have hb := hq) <;> (try simp only [dT, dF, eT, eF] at hb) <;> first | (exfalso; omega) | ((try simp only [hq]); clear hq))) <;> (try simp only [go_sem, qa, qb, qc, qd, qe, qf, qg, qh, qi, qj, qk, ql, qm, qn, qo, qp, qq, qr, qs, reduceIte, reduceCtorEq, Bank.none])) | refine Fits.of ?_ ?_ | (refine aL ?_ (fun hp => ?_) <;> ((try simp only [rowSet_fI hp, rowSet_fI2 hp]); (try simp only [rowSet_fB hp]))) | refine aE ?_ fun hp => ?_ | refine aC ?_ fun hp => ?_ | refine And.intro ?_ ?_ | clear hK K | clear hX hY X Y | clear hL L)
      all_goals exact absurd ⟨by assumption, gk, by assumption, by omega⟩ hg
    · by_cases hk2 : kind = 2
      · have gk : In kind 1 2 = true := by rw [In_iff]; omega
        refine CallX.of tok Tryz.func85 rfl rfl Tryz.ntmps85 Tryz.results85 rfl (by decide) (fun cx hnt hk0 => ?_)
        repeat' (first | refine AWp.seq fun K hK => ?_ | refine hK _ ?_; clear hK K | refine hX ?_; clear hX hY X Y | refine hY ?_; clear hX hY X Y | refine AWp.block ?_ | refine hL _ _ ?_ | ((first | refine AWp.region tok (by rw [hnt]; rfl) ?_ | refine AWp.cond' fun X Y hX hY => ?_ | refine AWp.skip ?_ | refine AWp.exit ?_ | refine AWp.ret ?_ | refine Fin.auto [] ?_ | refine runS_c [] (iBankOk_ok b (by omega) (by omega) h3) rfl ?_ ?_ ?_ | refine runS_c [] (userOk_ok _) rfl ?_ ?_ ?_ | refine runS_c [] (coinsOf_note kind hk2) rfl ?_ ?_ ?_ | ((first | apply gR | apply gC) <;> intro hq <;> (try simp only [nT, nF, n1, n0] at hq) <;> (have hb := hq) <;> (try simp only [dT, dF, eT, eF] at hb) <;> first | (exfalso; omega) | ((try simp only [hq]); clear hq))) <;> (try simp only [go_sem, qa, qb, qc, qd, qe, qf, qg, qh, qi, qj, qk, ql, qm, qn, qo, qp, qq, qr, qs, reduceIte, reduceCtorEq, Bank.none])) | refine Fits.of ?_ ?_ | (refine aL ?_ (fun hp => ?_) <;> ((try simp only [rowSet_fI hp, rowSet_fI2 hp]); (try simp only [rowSet_fB hp]))) | refine aE ?_ fun hp => ?_ | refine aC ?_ fun hp => ?_ | refine And.intro ?_ ?_ | clear hK K | clear hX hY X Y | clear hL L)
        all_goals exact absurd ⟨by assumption, gk, by assumption, by omega⟩ hg
      · refine CallX.of tok Tryz.func85 rfl rfl Tryz.ntmps85 Tryz.results85 rfl (by decide) (fun cx hnt hk0 => ?_)
        repeat' (first | refine AWp.seq fun K hK => ?_ | refine hK _ ?_; clear hK K | refine hX ?_; clear hX hY X Y | refine hY ?_; clear hX hY X Y | refine AWp.block ?_ | refine hL _ _ ?_ | ((first | refine AWp.region tok (by rw [hnt]; rfl) ?_ | refine AWp.cond' fun X Y hX hY => ?_ | refine AWp.skip ?_ | refine AWp.exit ?_ | refine AWp.ret ?_ | refine Fin.auto [] ?_ | refine runS_c [] (coinsOf_none kind (In12_no hk1 hk2)) rfl ?_ ?_ ?_ | ((first | apply gR | apply gC) <;> intro hq <;> (try simp only [nT, nF, n1, n0] at hq) <;> (have hb := hq) <;> (try simp only [dT, dF, eT, eF] at hb) <;> first | (exfalso; omega) | ((try simp only [hq]); clear hq))) <;> (try simp only [go_sem, qa, qb, qc, qd, qe, qf, qg, qh, qi, qj, qk, ql, qm, qn, qo, qp, qq, qr, qs, reduceIte, reduceCtorEq, Bank.none])) | refine Fits.of ?_ ?_ | (refine aL ?_ (fun hp => ?_) <;> ((try simp only [rowSet_fI hp, rowSet_fI2 hp]); (try simp only [rowSet_fB hp]))) | refine aE ?_ fun hp => ?_ | refine aC ?_ fun hp => ?_ | refine And.intro ?_ ?_ | clear hK K | clear hX hY X Y | clear hL L)
theorem iBankAway_yes (b : Bank) (kind src sum : Int) (h1 : b.own.length ≤ 1000) (h2 : b.notes.length ≤ 1000) (h3 : b.locked < 1099511627776) (h : b.takeB kind src sum = true) :
    Call Tryz.prog 85 [b.av, I kind, I src, I sum] [] 0 (.tup [.g (bankA (b.awayD kind src sum) 0), BB true]) (bankH (b.awayD kind src sum) 0) 2 := by
  simp only [Bank.takeB, Bool.and_eq_true, decide_eq_true_eq] at h
  obtain ⟨gb, gk, gs, g0, gA⟩ := h
  have gA : sum ≤ b.at kind src := by simpa [Bank.awayB] using gA
  obtain ⟨q1, q2, q3, q4, q5⟩ := bank_ok gb
  have q6 := parts_len q1
  have q7 := parts_len q2
  have gs' := gs
  rw [In_iff] at gk gs'
  have s1 := some_mE (l := b.own) (k := src) (by omega) (by omega)
  have s2 := some_mE (l := b.notes) (k := src) (by omega) (by omega)
  have l1 := lk_mE (l := b.own) (k := src) (by omega) (by omega)
  have l2 := lk_mE (l := b.notes) (k := src) (by omega) (by omega)
  have u1 := fun v => upd_mE (l := b.own) (k := src) (v := v) (by omega) (by omega)
  have u2 := fun v => upd_mE (l := b.notes) (k := src) (v := v) (by omega) (by omega)
  have p1 := parts_get q1 (src - 1).toNat
  have p2 := parts_get q2 (src - 1).toNat
  have p3 := parts_all q1
  have l3 : (b.own.set (src - 1).toNat (b.own.getD (src - 1).toNat 0 - sum)).length = 3 := by rw [List.length_set, q6]
  have l4 : (b.notes.set (src - 1).toNat (b.notes.getD (src - 1).toNat 0 - sum)).length = 3 := by rw [List.length_set, q7]
  by_cases hd : kind = 1
  · have gA : sum ≤ b.own.getD (src - 1).toNat 0 := by simpa only [Bank.at, Bank.list, if_pos hd] using gA
    refine CallX.of tok Tryz.func85 rfl rfl Tryz.ntmps85 Tryz.results85 rfl (by decide) (fun cx hnt hk0 => ?_)
    repeat' (first | refine AWp.seq fun K hK => ?_ | refine hK _ ?_; clear hK K | refine hX ?_; clear hX hY X Y | refine hY ?_; clear hX hY X Y | refine AWp.block ?_ | refine hL _ _ ?_ | ((first | refine AWp.region tok (by rw [hnt]; rfl) ?_ | refine AWp.cond' fun X Y hX hY => ?_ | refine AWp.skip ?_ | refine AWp.exit ?_ | refine AWp.ret ?_ | refine Fin.auto [] ?_ | refine runS_c [] (iBankOk_ok b (by omega) (by omega) h3) rfl ?_ ?_ ?_ | refine runS_c [] (userOk_ok _) rfl ?_ ?_ ?_ | refine runS_c [] (coinsOf_own kind hd) rfl ?_ ?_ ?_ | refine runS_c [] (ledgerOf_ok b q6 q7) rfl ?_ ?_ ?_ | refine runS_c [2, 3] (ownCoins_ok _) rfl ?_ ?_ ?_ | refine runS_c [2, 3] (ledgerBank_ok ⟨b.own.set (src - 1).toNat (b.own.getD (src - 1).toNat 0 - sum), b.notes, b.locked + sum⟩ l3 q7) rfl ?_ ?_ ?_ | ((first | apply gR | apply gC) <;> intro hq <;> (try simp only [nT, nF, n1, n0] at hq) <;> (have hb := hq) <;> (try simp only [dT, dF, eT, eF] at hb) <;> first | (exfalso; omega) | ((try simp only [hq]); clear hq))) <;> (try simp only [go_sem, qa, qb, qc, qd, qe, qf, qg, qh, qi, qj, qk, ql, qm, qn, qo, qp, qq, qr, qs, reduceIte, reduceCtorEq, gb, gs, s1, l1, u1, Bank.awayD, Bank.dec, Bank.put, Bank.list, Bank.at, if_pos hd])) | refine Fits.of ?_ ?_ | (refine aL ?_ (fun hp => ?_) <;> ((try simp only [rowSet_fI hp, rowSet_fI2 hp]); (try simp only [rowSet_fB hp]))) | refine aE ?_ fun hp => ?_ | refine aC ?_ fun hp => ?_ | refine And.intro ?_ ?_ | clear hK K | clear hX hY X Y | clear hL L)
    all_goals try omega
  · have gA : sum ≤ b.notes.getD (src - 1).toNat 0 := by simpa only [Bank.at, Bank.list, if_neg hd] using gA
    refine CallX.of tok Tryz.func85 rfl rfl Tryz.ntmps85 Tryz.results85 rfl (by decide) (fun cx hnt hk0 => ?_)
    repeat' (first | refine AWp.seq fun K hK => ?_ | refine hK _ ?_; clear hK K | refine hX ?_; clear hX hY X Y | refine hY ?_; clear hX hY X Y | refine AWp.block ?_ | refine hL _ _ ?_ | ((first | refine AWp.region tok (by rw [hnt]; rfl) ?_ | refine AWp.cond' fun X Y hX hY => ?_ | refine AWp.skip ?_ | refine AWp.exit ?_ | refine AWp.ret ?_ | refine Fin.auto [] ?_ | refine runS_c [] (iBankOk_ok b (by omega) (by omega) h3) rfl ?_ ?_ ?_ | refine runS_c [] (userOk_ok _) rfl ?_ ?_ ?_ | refine runS_c [] (coinsOf_note kind (by omega)) rfl ?_ ?_ ?_ | refine runS_c [] (ledgerOf_ok b q6 q7) rfl ?_ ?_ ?_ | refine runS_c [2, 3] (noteCoins_ok _) rfl ?_ ?_ ?_ | refine runS_c [2, 3] (ledgerBank_ok ⟨b.own, b.notes.set (src - 1).toNat (b.notes.getD (src - 1).toNat 0 - sum), b.locked⟩ q6 l4) rfl ?_ ?_ ?_ | ((first | apply gR | apply gC) <;> intro hq <;> (try simp only [nT, nF, n1, n0] at hq) <;> (have hb := hq) <;> (try simp only [dT, dF, eT, eF] at hb) <;> first | (exfalso; omega) | ((try simp only [hq]); clear hq))) <;> (try simp only [go_sem, qa, qb, qc, qd, qe, qf, qg, qh, qi, qj, qk, ql, qm, qn, qo, qp, qq, qr, qs, reduceIte, reduceCtorEq, gb, gs, s2, l2, u2, Bank.awayD, Bank.dec, Bank.put, Bank.list, Bank.at, if_neg hd])) | refine Fits.of ?_ ?_ | (refine aL ?_ (fun hp => ?_) <;> ((try simp only [rowSet_fI hp, rowSet_fI2 hp]); (try simp only [rowSet_fB hp]))) | refine aE ?_ fun hp => ?_ | refine aC ?_ fun hp => ?_ | refine And.intro ?_ ?_ | clear hK K | clear hX hY X Y | clear hL L)
    all_goals try omega
end Go.Hw
/- What is proved: what the program gives back to a bank. -/
set_option linter.all false
set_option maxRecDepth 100000
set_option maxHeartbeats 4000000
namespace Go.Hw
open Go.Proofs
open Nat renaming reduceDiv → qa, reduceMod → qb, reduceAdd → qc, reduceMul → qd, reduceSub → qe, reduceLeDiff → qf, reduceBEq → qg, reduceEqDiff → qh, reduceBeqDiff → qi, reduceLT → qj
open Int renaming reduceToNat → qk, reduceAdd → ql, reduceSub → qm, reduceNeg → qn, reduceLT → qo, reduceLE → qp, reduceEq → qq, reduceBEq → qr, reduceBNe → qs
open Go.Hw renaming runG_split → gR, condG_split → gC, takG_split → gT, effG_split → gE
theorem iBankBack_no (b : Bank) (kind dst sum : Int) (h1 : b.own.length ≤ 1000) (h2 : b.notes.length ≤ 1000) (h3 : b.locked < 1099511627776) (h : b.giveB kind dst sum = false) :
    Call Tryz.prog 122 [b.av, I kind, I dst, I sum] [] 0 (.tup [.g (bankA Bank.none 0), BB false]) (bankH Bank.none 0) 2 := by
  by_cases hg : b.ok = true ∧ In kind 1 2 = true ∧ In dst 1 3 = true ∧ 0 ≤ sum ∧ sum ≤ 30
  · obtain ⟨gb, gk, gs, g0, g30⟩ := hg
    obtain ⟨q1, q2, q3, q4, q5⟩ := bank_ok gb
    have q6 := parts_len q1
    have q7 := parts_len q2
    have p4 := parts_all q2
    have gA : (kind = 1 ∧ b.locked < sum) ∨ (kind = 2 ∧ 30 < isum b.notes + sum) := by
      simp only [Bank.giveB, gb, gk, gs, Bool.true_and, decide_eq_true g0, decide_eq_true g30] at h
      unfold Bank.backB at h
      rw [Bool.not_eq_false', Bool.or_eq_true, Bool.and_eq_true, Bool.and_eq_true] at h
      rcases h with ⟨a, b⟩ | ⟨a, b⟩
      · exact .inl ⟨of_decide_eq_true a, of_decide_eq_true b⟩
      · exact .inr ⟨of_decide_eq_true a, of_decide_eq_true b⟩
    have gs' := gs
    rw [In_iff] at gk gs'
    by_cases hd : kind = 1
    · have gA : b.locked < sum := by omega
      refine CallX.of tok Tryz.func122 rfl rfl Tryz.ntmps122 Tryz.results122 rfl (by decide) (fun cx hnt hk0 => ?_)
      repeat' (first | refine AWp.seq fun K hK => ?_ | refine hK _ ?_; clear hK K | refine hX ?_; clear hX hY X Y | refine hY ?_; clear hX hY X Y | refine AWp.block ?_ | refine hL _ _ ?_ | ((first | refine AWp.region tok (by rw [hnt]; rfl) ?_ | refine AWp.cond' fun X Y hX hY => ?_ | refine AWp.skip ?_ | refine AWp.exit ?_ | refine AWp.ret ?_ | refine Fin.auto [] ?_ | refine runS_c [] (iBankOk_ok b (by omega) (by omega) h3) rfl ?_ ?_ ?_ | refine runS_c [] (userOk_ok _) rfl ?_ ?_ ?_ | refine runS_c [] (coinsOf_own kind hd) rfl ?_ ?_ ?_ | refine runS_c [] (ledgerOf_ok b q6 q7) rfl ?_ ?_ ?_ | ((first | apply gR | apply gC) <;> intro hq <;> (try simp only [nT, nF, n1, n0] at hq) <;> (have hb := hq) <;> (try simp only [dT, dF, eT, eF] at hb) <;> first | (exfalso; omega) | ((try simp only [hq]); clear hq))) <;> (try simp only [go_sem, qa, qb, qc, qd, qe, qf, qg, qh, qi, qj, qk, ql, qm, qn, qo, qp, qq, qr, qs, reduceIte, reduceCtorEq, gb, gs, Bank.none])) | refine Fits.of ?_ ?_ | (refine aL ?_ (fun hp => ?_) <;> ((try simp only [rowSet_fI hp, rowSet_fI2 hp]); (try simp only [rowSet_fB hp]))) | refine aE ?_ fun hp => ?_ | refine aC ?_ fun hp => ?_ | refine And.intro ?_ ?_ | clear hK K | clear hX hY X Y | clear hL L)
      all_goals try omega
    · have gA : 30 < isum b.notes + sum := by omega
      refine CallX.of tok Tryz.func122 rfl rfl Tryz.ntmps122 Tryz.results122 rfl (by decide) (fun cx hnt hk0 => ?_)
      repeat' (first | refine AWp.seq fun K hK => ?_ | refine hK _ ?_; clear hK K | refine hX ?_; clear hX hY X Y | refine hY ?_; clear hX hY X Y | refine AWp.block ?_ | refine hL _ _ ?_ | ((first | refine AWp.region tok (by rw [hnt]; rfl) ?_ | refine AWp.cond' fun X Y hX hY => ?_ | refine AWp.skip ?_ | refine AWp.exit ?_ | refine AWp.ret ?_ | refine Fin.auto [] ?_ | refine runS_c [] (iBankOk_ok b (by omega) (by omega) h3) rfl ?_ ?_ ?_ | refine runS_c [] (userOk_ok _) rfl ?_ ?_ ?_ | refine runS_c [] (coinsOf_note kind (by omega)) rfl ?_ ?_ ?_ | refine runS_c [] (ledgerOf_ok b q6 q7) rfl ?_ ?_ ?_ | refine runS_c [] (amountTotal_ok b.notes (by omega)) rfl ?_ ?_ ?_ | ((first | apply gR | apply gC) <;> intro hq <;> (try simp only [nT, nF, n1, n0] at hq) <;> (have hb := hq) <;> (try simp only [dT, dF, eT, eF] at hb) <;> first | (exfalso; omega) | ((try simp only [hq]); clear hq))) <;> (try simp only [go_sem, qa, qb, qc, qd, qe, qf, qg, qh, qi, qj, qk, ql, qm, qn, qo, qp, qq, qr, qs, reduceIte, reduceCtorEq, gb, gs, q2, if_true, Bank.none])) | refine Fits.of ?_ ?_ | (refine aL ?_ (fun hp => ?_) <;> ((try simp only [rowSet_fI hp, rowSet_fI2 hp]); (try simp only [rowSet_fB hp]))) | refine aE ?_ fun hp => ?_ | refine aC ?_ fun hp => ?_ | refine And.intro ?_ ?_ | clear hK K | clear hX hY X Y | clear hL L)
      all_goals try omega
  · by_cases hk1 : kind = 1
    · have gk : In kind 1 2 = true := by rw [In_iff]; omega
      refine CallX.of tok Tryz.func122 rfl rfl Tryz.ntmps122 Tryz.results122 rfl (by decide) (fun cx hnt hk0 => ?_)
      repeat' (first | refine AWp.seq fun K hK => ?_ | refine hK _ ?_; clear hK K | refine hX ?_; clear hX hY X Y | refine hY ?_; clear hX hY X Y | refine AWp.block ?_ | refine hL _ _ ?_ | ((first | refine AWp.region tok (by rw [hnt]; rfl) ?_ | refine AWp.cond' fun X Y hX hY => ?_ | refine AWp.skip ?_ | refine AWp.exit ?_ | refine AWp.ret ?_ | refine Fin.auto [] ?_ | refine runS_c [] (iBankOk_ok b (by omega) (by omega) h3) rfl ?_ ?_ ?_ | refine runS_c [] (userOk_ok _) rfl ?_ ?_ ?_ | refine runS_c [] (coinsOf_own kind hk1) rfl ?_ ?_ ?_ | ((first | apply gR | apply gC) <;> intro hq <;> (try simp only [nT, nF, n1, n0] at hq) <;> (have hb := hq) <;> (try simp only [dT, dF, eT, eF] at hb) <;> first | (exfalso; omega) | ((try simp only [hq]); clear hq))) <;> (try simp only [go_sem, qa, qb, qc, qd, qe, qf, qg, qh, qi, qj, qk, ql, qm, qn, qo, qp, qq, qr, qs, reduceIte, reduceCtorEq, Bank.none])) | refine Fits.of ?_ ?_ | (refine aL ?_ (fun hp => ?_) <;> ((try simp only [rowSet_fI hp, rowSet_fI2 hp]); (try simp only [rowSet_fB hp]))) | refine aE ?_ fun hp => ?_ | refine aC ?_ fun hp => ?_ | refine And.intro ?_ ?_ | clear hK K | clear hX hY X Y | clear hL L)
      all_goals exact absurd ⟨by assumption, gk, by assumption, by omega, by omega⟩ hg
    · by_cases hk2 : kind = 2
      · have gk : In kind 1 2 = true := by rw [In_iff]; omega
        refine CallX.of tok Tryz.func122 rfl rfl Tryz.ntmps122 Tryz.results122 rfl (by decide) (fun cx hnt hk0 => ?_)
        repeat' (first | refine AWp.seq fun K hK => ?_ | refine hK _ ?_; clear hK K | refine hX ?_; clear hX hY X Y | refine hY ?_; clear hX hY X Y | refine AWp.block ?_ | refine hL _ _ ?_ | ((first | refine AWp.region tok (by rw [hnt]; rfl) ?_ | refine AWp.cond' fun X Y hX hY => ?_ | refine AWp.skip ?_ | refine AWp.exit ?_ | refine AWp.ret ?_ | refine Fin.auto [] ?_ | refine runS_c [] (iBankOk_ok b (by omega) (by omega) h3) rfl ?_ ?_ ?_ | refine runS_c [] (userOk_ok _) rfl ?_ ?_ ?_ | refine runS_c [] (coinsOf_note kind hk2) rfl ?_ ?_ ?_ | ((first | apply gR | apply gC) <;> intro hq <;> (try simp only [nT, nF, n1, n0] at hq) <;> (have hb := hq) <;> (try simp only [dT, dF, eT, eF] at hb) <;> first | (exfalso; omega) | ((try simp only [hq]); clear hq))) <;> (try simp only [go_sem, qa, qb, qc, qd, qe, qf, qg, qh, qi, qj, qk, ql, qm, qn, qo, qp, qq, qr, qs, reduceIte, reduceCtorEq, Bank.none])) | refine Fits.of ?_ ?_ | (refine aL ?_ (fun hp => ?_) <;> ((try simp only [rowSet_fI hp, rowSet_fI2 hp]); (try simp only [rowSet_fB hp]))) | refine aE ?_ fun hp => ?_ | refine aC ?_ fun hp => ?_ | refine And.intro ?_ ?_ | clear hK K | clear hX hY X Y | clear hL L)
        all_goals exact absurd ⟨by assumption, gk, by assumption, by omega, by omega⟩ hg
      · refine CallX.of tok Tryz.func122 rfl rfl Tryz.ntmps122 Tryz.results122 rfl (by decide) (fun cx hnt hk0 => ?_)
        repeat' (first | refine AWp.seq fun K hK => ?_ | refine hK _ ?_; clear hK K | refine hX ?_; clear hX hY X Y | refine hY ?_; clear hX hY X Y | refine AWp.block ?_ | refine hL _ _ ?_ | ((first | refine AWp.region tok (by rw [hnt]; rfl) ?_ | refine AWp.cond' fun X Y hX hY => ?_ | refine AWp.skip ?_ | refine AWp.exit ?_ | refine AWp.ret ?_ | refine Fin.auto [] ?_ | refine runS_c [] (coinsOf_none kind (In12_no hk1 hk2)) rfl ?_ ?_ ?_ | ((first | apply gR | apply gC) <;> intro hq <;> (try simp only [nT, nF, n1, n0] at hq) <;> (have hb := hq) <;> (try simp only [dT, dF, eT, eF] at hb) <;> first | (exfalso; omega) | ((try simp only [hq]); clear hq))) <;> (try simp only [go_sem, qa, qb, qc, qd, qe, qf, qg, qh, qi, qj, qk, ql, qm, qn, qo, qp, qq, qr, qs, reduceIte, reduceCtorEq, Bank.none])) | refine Fits.of ?_ ?_ | (refine aL ?_ (fun hp => ?_) <;> ((try simp only [rowSet_fI hp, rowSet_fI2 hp]); (try simp only [rowSet_fB hp]))) | refine aE ?_ fun hp => ?_ | refine aC ?_ fun hp => ?_ | refine And.intro ?_ ?_ | clear hK K | clear hX hY X Y | clear hL L)
theorem iBankBack_yes (b : Bank) (kind dst sum : Int) (h1 : b.own.length ≤ 1000) (h2 : b.notes.length ≤ 1000) (h3 : b.locked < 1099511627776) (h : b.giveB kind dst sum = true) :
    Call Tryz.prog 122 [b.av, I kind, I dst, I sum] [] 0 (.tup [.g (bankA (b.backD kind dst sum) 0), BB true]) (bankH (b.backD kind dst sum) 0) 2 := by
  simp only [Bank.giveB, Bool.and_eq_true, decide_eq_true_eq] at h
  obtain ⟨gb, gk, gs, g0, g30, gA⟩ := h
  have gA : ¬ (kind = 1 ∧ b.locked < sum) ∧ ¬ (kind = 2 ∧ 30 < isum b.notes + sum) := by
    simp [Bank.backB] at gA
    exact ⟨by omega, by omega⟩
  obtain ⟨q1, q2, q3, q4, q5⟩ := bank_ok gb
  have q6 := parts_len q1
  have q7 := parts_len q2
  have p4 := parts_all q2
  have gs' := gs
  rw [In_iff] at gk gs'
  have s1 := some_mE (l := b.own) (k := dst) (by omega) (by omega)
  have s2 := some_mE (l := b.notes) (k := dst) (by omega) (by omega)
  have l1 := lk_mE (l := b.own) (k := dst) (by omega) (by omega)
  have l2 := lk_mE (l := b.notes) (k := dst) (by omega) (by omega)
  have u1 := fun v => upd_mE (l := b.own) (k := dst) (v := v) (by omega) (by omega)
  have u2 := fun v => upd_mE (l := b.notes) (k := dst) (v := v) (by omega) (by omega)
  have p1 := parts_get q1 (dst - 1).toNat
  have p2 := parts_get q2 (dst - 1).toNat
  have p3 := parts_all q1
  have l3 : (b.own.set (dst - 1).toNat (b.own.getD (dst - 1).toNat 0 + sum)).length = 3 := by rw [List.length_set, q6]
  have l4 : (b.notes.set (dst - 1).toNat (b.notes.getD (dst - 1).toNat 0 + sum)).length = 3 := by rw [List.length_set, q7]
  by_cases hd : kind = 1
  · have gA : ¬ b.locked < sum := fun a => gA.1 ⟨hd, a⟩
    refine CallX.of tok Tryz.func122 rfl rfl Tryz.ntmps122 Tryz.results122 rfl (by decide) (fun cx hnt hk0 => ?_)
    repeat' (first | refine AWp.seq fun K hK => ?_ | refine hK _ ?_; clear hK K | refine hX ?_; clear hX hY X Y | refine hY ?_; clear hX hY X Y | refine AWp.block ?_ | refine hL _ _ ?_ | ((first | refine AWp.region tok (by rw [hnt]; rfl) ?_ | refine AWp.cond' fun X Y hX hY => ?_ | refine AWp.skip ?_ | refine AWp.exit ?_ | refine AWp.ret ?_ | refine Fin.auto [] ?_ | refine runS_c [] (iBankOk_ok b (by omega) (by omega) h3) rfl ?_ ?_ ?_ | refine runS_c [] (userOk_ok _) rfl ?_ ?_ ?_ | refine runS_c [] (coinsOf_own kind hd) rfl ?_ ?_ ?_ | refine runS_c [] (ledgerOf_ok b q6 q7) rfl ?_ ?_ ?_ | refine runS_c [2, 3] (ownCoins_ok _) rfl ?_ ?_ ?_ | refine runS_c [2, 3] (ledgerBank_ok ⟨b.own.set (dst - 1).toNat (b.own.getD (dst - 1).toNat 0 + sum), b.notes, b.locked - sum⟩ l3 q7) rfl ?_ ?_ ?_ | ((first | apply gR | apply gC) <;> intro hq <;> (try simp only [nT, nF, n1, n0] at hq) <;> (have hb := hq) <;> (try simp only [dT, dF, eT, eF] at hb) <;> first | (exfalso; omega) | ((try simp only [hq]); clear hq))) <;> (try simp only [go_sem, qa, qb, qc, qd, qe, qf, qg, qh, qi, qj, qk, ql, qm, qn, qo, qp, qq, qr, qs, reduceIte, reduceCtorEq, gb, gs, s1, l1, u1, Bank.backD, Bank.add, Bank.put, Bank.list, Bank.at, if_pos hd])) | refine Fits.of ?_ ?_ | (refine aL ?_ (fun hp => ?_) <;> ((try simp only [rowSet_fI hp, rowSet_fI2 hp]); (try simp only [rowSet_fB hp]))) | refine aE ?_ fun hp => ?_ | refine aC ?_ fun hp => ?_ | refine And.intro ?_ ?_ | clear hK K | clear hX hY X Y | clear hL L)
    all_goals try omega
  · have gA : ¬ 30 < isum b.notes + sum := fun a => gA.2 ⟨by omega, a⟩
    refine CallX.of tok Tryz.func122 rfl rfl Tryz.ntmps122 Tryz.results122 rfl (by decide) (fun cx hnt hk0 => ?_)
    repeat' (first | refine AWp.seq fun K hK => ?_ | refine hK _ ?_; clear hK K | refine hX ?_; clear hX hY X Y | refine hY ?_; clear hX hY X Y | refine AWp.block ?_ | refine hL _ _ ?_ | ((first | refine AWp.region tok (by rw [hnt]; rfl) ?_ | refine AWp.cond' fun X Y hX hY => ?_ | refine AWp.skip ?_ | refine AWp.exit ?_ | refine AWp.ret ?_ | refine Fin.auto [] ?_ | refine runS_c [] (iBankOk_ok b (by omega) (by omega) h3) rfl ?_ ?_ ?_ | refine runS_c [] (userOk_ok _) rfl ?_ ?_ ?_ | refine runS_c [] (coinsOf_note kind (by omega)) rfl ?_ ?_ ?_ | refine runS_c [] (ledgerOf_ok b q6 q7) rfl ?_ ?_ ?_ | refine runS_c [2, 3] (noteCoins_ok _) rfl ?_ ?_ ?_ | refine runS_c [] (amountTotal_ok b.notes (by omega)) rfl ?_ ?_ ?_ | refine runS_c [2, 3] (ledgerBank_ok ⟨b.own, b.notes.set (dst - 1).toNat (b.notes.getD (dst - 1).toNat 0 + sum), b.locked⟩ q6 l4) rfl ?_ ?_ ?_ | ((first | apply gR | apply gC) <;> intro hq <;> (try simp only [nT, nF, n1, n0] at hq) <;> (have hb := hq) <;> (try simp only [dT, dF, eT, eF] at hb) <;> first | (exfalso; omega) | ((try simp only [hq]); clear hq))) <;> (try simp only [go_sem, qa, qb, qc, qd, qe, qf, qg, qh, qi, qj, qk, ql, qm, qn, qo, qp, qq, qr, qs, reduceIte, reduceCtorEq, gb, gs, s2, l2, u2, q2, if_true, Bank.backD, Bank.add, Bank.put, Bank.list, Bank.at, if_neg hd])) | refine Fits.of ?_ ?_ | (refine aL ?_ (fun hp => ?_) <;> ((try simp only [rowSet_fI hp, rowSet_fI2 hp]); (try simp only [rowSet_fB hp]))) | refine aE ?_ fun hp => ?_ | refine aC ?_ fun hp => ?_ | refine And.intro ?_ ?_ | clear hK K | clear hX hY X Y | clear hL L)
    all_goals try omega
end Go.Hw
/- What is proved: what the program moves in a bank. -/
set_option linter.all false
set_option maxRecDepth 100000
set_option maxHeartbeats 4000000
namespace Go.Hw
open Go.Proofs
open Nat renaming reduceDiv → qa, reduceMod → qb, reduceAdd → qc, reduceMul → qd, reduceSub → qe, reduceLeDiff → qf, reduceBEq → qg, reduceEqDiff → qh, reduceBeqDiff → qi, reduceLT → qj
open Int renaming reduceToNat → qk, reduceAdd → ql, reduceSub → qm, reduceNeg → qn, reduceLT → qo, reduceLE → qp, reduceEq → qq, reduceBEq → qr, reduceBNe → qs
open Go.Hw renaming runG_split → gR, condG_split → gC, takG_split → gT, effG_split → gE
theorem iBankMove_no (b : Bank) (kind src dst sum : Int) (h1 : b.own.length ≤ 1000) (h2 : b.notes.length ≤ 1000) (h3 : b.locked < 1099511627776) (h : b.moveB kind src dst sum = false) :
    Call Tryz.prog 62 [b.av, I kind, I src, I dst, I sum] [] 0 (.tup [.g (bankA Bank.none 0), BB false]) (bankH Bank.none 0) 2 := by
  by_cases hg : b.ok = true ∧ In kind 1 2 = true ∧ In src 1 3 = true ∧ In dst 1 3 = true ∧ 0 ≤ sum
  · obtain ⟨gb, gk, gs, gd, g0⟩ := hg
    obtain ⟨q1, q2, q3, q4, q5⟩ := bank_ok gb
    have q6 := parts_len q1
    have q7 := parts_len q2
    have gA : ¬ sum ≤ b.at kind src := by
      simp only [Bank.moveB, gb, gk, gs, gd, Bool.true_and, decide_eq_true g0] at h
      simpa using h
    have gs' := gs
    rw [In_iff] at gk gs'
    have s1 := some_mE (l := b.own) (k := src) (by omega) (by omega)
    have s2 := some_mE (l := b.notes) (k := src) (by omega) (by omega)
    have l1 := lk_mE (l := b.own) (k := src) (by omega) (by omega)
    have l2 := lk_mE (l := b.notes) (k := src) (by omega) (by omega)
    by_cases hd : kind = 1
    · have gA : ¬ sum ≤ b.own.getD (src - 1).toNat 0 := by simpa only [Bank.at, Bank.list, if_pos hd] using gA
      refine CallX.of tok Tryz.func62 rfl rfl Tryz.ntmps62 Tryz.results62 rfl (by decide) (fun cx hnt hk0 => ?_)
      repeat' (first | refine AWp.seq fun K hK => ?_ | refine hK _ ?_; clear hK K | refine hX ?_; clear hX hY X Y | refine hY ?_; clear hX hY X Y | refine AWp.block ?_ | refine hL _ _ ?_ | ((first | refine AWp.region tok (by rw [hnt]; rfl) ?_ | refine AWp.cond' fun X Y hX hY => ?_ | refine AWp.skip ?_ | refine AWp.exit ?_ | refine AWp.ret ?_ | refine Fin.auto [] ?_ | refine runS_c [] (iBankOk_ok b (by omega) (by omega) h3) rfl ?_ ?_ ?_ | refine runS_c [] (userOk_ok _) rfl ?_ ?_ ?_ | refine runS_c [] (coinsOf_own kind hd) rfl ?_ ?_ ?_ | refine runS_c [] (ledgerOf_ok b q6 q7) rfl ?_ ?_ ?_ | refine runS_c [2, 3] (ownCoins_ok _) rfl ?_ ?_ ?_ | ((first | apply gR | apply gC) <;> intro hq <;> (try simp only [nT, nF, n1, n0] at hq) <;> (have hb := hq) <;> (try simp only [dT, dF, eT, eF] at hb) <;> first | (exfalso; omega) | ((try simp only [hq]); clear hq))) <;> (try simp only [go_sem, qa, qb, qc, qd, qe, qf, qg, qh, qi, qj, qk, ql, qm, qn, qo, qp, qq, qr, qs, reduceIte, reduceCtorEq, gb, gs, gd, s1, l1, Bank.none])) | refine Fits.of ?_ ?_ | (refine aL ?_ (fun hp => ?_) <;> ((try simp only [rowSet_fI hp, rowSet_fI2 hp]); (try simp only [rowSet_fB hp]))) | refine aE ?_ fun hp => ?_ | refine aC ?_ fun hp => ?_ | refine And.intro ?_ ?_ | clear hK K | clear hX hY X Y | clear hL L)
      all_goals try omega
    · have gA : ¬ sum ≤ b.notes.getD (src - 1).toNat 0 := by simpa only [Bank.at, Bank.list, if_neg hd] using gA
      refine CallX.of tok Tryz.func62 rfl rfl Tryz.ntmps62 Tryz.results62 rfl (by decide) (fun cx hnt hk0 => ?_)
      repeat' (first | refine AWp.seq fun K hK => ?_ | refine hK _ ?_; clear hK K | refine hX ?_; clear hX hY X Y | refine hY ?_; clear hX hY X Y | refine AWp.block ?_ | refine hL _ _ ?_ | ((first | refine AWp.region tok (by rw [hnt]; rfl) ?_ | refine AWp.cond' fun X Y hX hY => ?_ | refine AWp.skip ?_ | refine AWp.exit ?_ | refine AWp.ret ?_ | refine Fin.auto [] ?_ | refine runS_c [] (iBankOk_ok b (by omega) (by omega) h3) rfl ?_ ?_ ?_ | refine runS_c [] (userOk_ok _) rfl ?_ ?_ ?_ | refine runS_c [] (coinsOf_note kind (by omega)) rfl ?_ ?_ ?_ | refine runS_c [] (ledgerOf_ok b q6 q7) rfl ?_ ?_ ?_ | refine runS_c [2, 3] (noteCoins_ok _) rfl ?_ ?_ ?_ | ((first | apply gR | apply gC) <;> intro hq <;> (try simp only [nT, nF, n1, n0] at hq) <;> (have hb := hq) <;> (try simp only [dT, dF, eT, eF] at hb) <;> first | (exfalso; omega) | ((try simp only [hq]); clear hq))) <;> (try simp only [go_sem, qa, qb, qc, qd, qe, qf, qg, qh, qi, qj, qk, ql, qm, qn, qo, qp, qq, qr, qs, reduceIte, reduceCtorEq, gb, gs, gd, s2, l2, Bank.none])) | refine Fits.of ?_ ?_ | (refine aL ?_ (fun hp => ?_) <;> ((try simp only [rowSet_fI hp, rowSet_fI2 hp]); (try simp only [rowSet_fB hp]))) | refine aE ?_ fun hp => ?_ | refine aC ?_ fun hp => ?_ | refine And.intro ?_ ?_ | clear hK K | clear hX hY X Y | clear hL L)
      all_goals try omega
  · by_cases hk1 : kind = 1
    · have gk : In kind 1 2 = true := by rw [In_iff]; omega
      refine CallX.of tok Tryz.func62 rfl rfl Tryz.ntmps62 Tryz.results62 rfl (by decide) (fun cx hnt hk0 => ?_)
      repeat' (first | refine AWp.seq fun K hK => ?_ | refine hK _ ?_; clear hK K | refine hX ?_; clear hX hY X Y | refine hY ?_; clear hX hY X Y | refine AWp.block ?_ | refine hL _ _ ?_ | ((first | refine AWp.region tok (by rw [hnt]; rfl) ?_ | refine AWp.cond' fun X Y hX hY => ?_ | refine AWp.skip ?_ | refine AWp.exit ?_ | refine AWp.ret ?_ | refine Fin.auto [] ?_ | refine runS_c [] (iBankOk_ok b (by omega) (by omega) h3) rfl ?_ ?_ ?_ | refine runS_c [] (userOk_ok _) rfl ?_ ?_ ?_ | refine runS_c [] (coinsOf_own kind hk1) rfl ?_ ?_ ?_ | ((first | apply gR | apply gC) <;> intro hq <;> (try simp only [nT, nF, n1, n0] at hq) <;> (have hb := hq) <;> (try simp only [dT, dF, eT, eF] at hb) <;> first | (exfalso; omega) | ((try simp only [hq]); clear hq))) <;> (try simp only [go_sem, qa, qb, qc, qd, qe, qf, qg, qh, qi, qj, qk, ql, qm, qn, qo, qp, qq, qr, qs, reduceIte, reduceCtorEq, Bank.none])) | refine Fits.of ?_ ?_ | (refine aL ?_ (fun hp => ?_) <;> ((try simp only [rowSet_fI hp, rowSet_fI2 hp]); (try simp only [rowSet_fB hp]))) | refine aE ?_ fun hp => ?_ | refine aC ?_ fun hp => ?_ | refine And.intro ?_ ?_ | clear hK K | clear hX hY X Y | clear hL L)
      all_goals exact absurd ⟨by assumption, gk, by assumption, by assumption, by omega⟩ hg
    · by_cases hk2 : kind = 2
      · have gk : In kind 1 2 = true := by rw [In_iff]; omega
        refine CallX.of tok Tryz.func62 rfl rfl Tryz.ntmps62 Tryz.results62 rfl (by decide) (fun cx hnt hk0 => ?_)
        repeat' (first | refine AWp.seq fun K hK => ?_ | refine hK _ ?_; clear hK K | refine hX ?_; clear hX hY X Y | refine hY ?_; clear hX hY X Y | refine AWp.block ?_ | refine hL _ _ ?_ | ((first | refine AWp.region tok (by rw [hnt]; rfl) ?_ | refine AWp.cond' fun X Y hX hY => ?_ | refine AWp.skip ?_ | refine AWp.exit ?_ | refine AWp.ret ?_ | refine Fin.auto [] ?_ | refine runS_c [] (iBankOk_ok b (by omega) (by omega) h3) rfl ?_ ?_ ?_ | refine runS_c [] (userOk_ok _) rfl ?_ ?_ ?_ | refine runS_c [] (coinsOf_note kind hk2) rfl ?_ ?_ ?_ | ((first | apply gR | apply gC) <;> intro hq <;> (try simp only [nT, nF, n1, n0] at hq) <;> (have hb := hq) <;> (try simp only [dT, dF, eT, eF] at hb) <;> first | (exfalso; omega) | ((try simp only [hq]); clear hq))) <;> (try simp only [go_sem, qa, qb, qc, qd, qe, qf, qg, qh, qi, qj, qk, ql, qm, qn, qo, qp, qq, qr, qs, reduceIte, reduceCtorEq, Bank.none])) | refine Fits.of ?_ ?_ | (refine aL ?_ (fun hp => ?_) <;> ((try simp only [rowSet_fI hp, rowSet_fI2 hp]); (try simp only [rowSet_fB hp]))) | refine aE ?_ fun hp => ?_ | refine aC ?_ fun hp => ?_ | refine And.intro ?_ ?_ | clear hK K | clear hX hY X Y | clear hL L)
        all_goals exact absurd ⟨by assumption, gk, by assumption, by assumption, by omega⟩ hg
      · refine CallX.of tok Tryz.func62 rfl rfl Tryz.ntmps62 Tryz.results62 rfl (by decide) (fun cx hnt hk0 => ?_)
        repeat' (first | refine AWp.seq fun K hK => ?_ | refine hK _ ?_; clear hK K | refine hX ?_; clear hX hY X Y | refine hY ?_; clear hX hY X Y | refine AWp.block ?_ | refine hL _ _ ?_ | ((first | refine AWp.region tok (by rw [hnt]; rfl) ?_ | refine AWp.cond' fun X Y hX hY => ?_ | refine AWp.skip ?_ | refine AWp.exit ?_ | refine AWp.ret ?_ | refine Fin.auto [] ?_ | refine runS_c [] (coinsOf_none kind (In12_no hk1 hk2)) rfl ?_ ?_ ?_ | ((first | apply gR | apply gC) <;> intro hq <;> (try simp only [nT, nF, n1, n0] at hq) <;> (have hb := hq) <;> (try simp only [dT, dF, eT, eF] at hb) <;> first | (exfalso; omega) | ((try simp only [hq]); clear hq))) <;> (try simp only [go_sem, qa, qb, qc, qd, qe, qf, qg, qh, qi, qj, qk, ql, qm, qn, qo, qp, qq, qr, qs, reduceIte, reduceCtorEq, Bank.none])) | refine Fits.of ?_ ?_ | (refine aL ?_ (fun hp => ?_) <;> ((try simp only [rowSet_fI hp, rowSet_fI2 hp]); (try simp only [rowSet_fB hp]))) | refine aE ?_ fun hp => ?_ | refine aC ?_ fun hp => ?_ | refine And.intro ?_ ?_ | clear hK K | clear hX hY X Y | clear hL L)
theorem iBankMove_yes (b : Bank) (kind src dst sum : Int) (h1 : b.own.length ≤ 1000) (h2 : b.notes.length ≤ 1000) (h3 : b.locked < 1099511627776) (h : b.moveB kind src dst sum = true) :
    Call Tryz.prog 62 [b.av, I kind, I src, I dst, I sum] [] 0 (.tup [.g (bankA (b.moveD kind src dst sum) 0), BB true]) (bankH (b.moveD kind src dst sum) 0) 2 := by
  simp only [Bank.moveB, Bool.and_eq_true, decide_eq_true_eq] at h
  obtain ⟨gb, gk, gs, gd, g0, gA⟩ := h
  obtain ⟨q1, q2, q3, q4, q5⟩ := bank_ok gb
  have q6 := parts_len q1
  have q7 := parts_len q2
  have gs' := gs
  have gd' := gd
  rw [In_iff] at gk gs' gd'
  by_cases hd : kind = 1
  · have gA : sum ≤ b.own.getD (src - 1).toNat 0 := by simpa only [Bank.at, Bank.list, if_pos hd] using gA
    have s1 := some_mE (l := b.own) (k := src) (by omega) (by omega)
    have l1 := lk_mE (l := b.own) (k := src) (by omega) (by omega)
    have u1 := fun v => upd_mE (l := b.own) (k := src) (v := v) (by omega) (by omega)
    have p1 := parts_get q1 (src - 1).toNat
    have q8 := parts_set q1 (i := (src - 1).toNat) (v := b.own.getD (src - 1).toNat 0 - sum) (by omega)
    have q9 := parts_len q8
    have p2 := parts_get q8 (dst - 1).toNat
    have s2 := some_mE (l := b.own.set (src - 1).toNat (b.own.getD (src - 1).toNat 0 - sum)) (k := dst) (by omega) (by omega)
    have l2 := lk_mE (l := b.own.set (src - 1).toNat (b.own.getD (src - 1).toNat 0 - sum)) (k := dst) (by omega) (by omega)
    have u2 := fun v => upd_mE (l := b.own.set (src - 1).toNat (b.own.getD (src - 1).toNat 0 - sum)) (k := dst) (v := v) (by omega) (by omega)
    have l3 : ((b.own.set (src - 1).toNat (b.own.getD (src - 1).toNat 0 - sum)).set (dst - 1).toNat ((b.own.set (src - 1).toNat (b.own.getD (src - 1).toNat 0 - sum)).getD (dst - 1).toNat 0 + sum)).length = 3 := by rw [List.length_set, q9]
    simp only [List.length_set] at u2
    refine CallX.of tok Tryz.func62 rfl rfl Tryz.ntmps62 Tryz.results62 rfl (by decide) (fun cx hnt hk0 => ?_)
    repeat' (first | refine AWp.seq fun K hK => ?_ | refine hK _ ?_; clear hK K | refine hX ?_; clear hX hY X Y | refine hY ?_; clear hX hY X Y | refine AWp.block ?_ | refine hL _ _ ?_ | ((first | refine AWp.region tok (by rw [hnt]; rfl) ?_ | refine AWp.cond' fun X Y hX hY => ?_ | refine AWp.skip ?_ | refine AWp.exit ?_ | refine AWp.ret ?_ | refine Fin.auto [] ?_ | refine runS_c [] (iBankOk_ok b (by omega) (by omega) h3) rfl ?_ ?_ ?_ | refine runS_c [] (userOk_ok _) rfl ?_ ?_ ?_ | refine runS_c [] (coinsOf_own kind hd) rfl ?_ ?_ ?_ | refine runS_c [] (ledgerOf_ok b q6 q7) rfl ?_ ?_ ?_ | refine runS_c [2, 3] (ownCoins_ok _) rfl ?_ ?_ ?_ | refine runS_c [2, 3] (ledgerBank_ok ⟨(b.own.set (src - 1).toNat (b.own.getD (src - 1).toNat 0 - sum)).set (dst - 1).toNat ((b.own.set (src - 1).toNat (b.own.getD (src - 1).toNat 0 - sum)).getD (dst - 1).toNat 0 + sum), b.notes, b.locked⟩ l3 q7) rfl ?_ ?_ ?_ | ((first | apply gR | apply gC) <;> intro hq <;> (try simp only [nT, nF, n1, n0] at hq) <;> (have hb := hq) <;> (try simp only [dT, dF, eT, eF] at hb) <;> first | (exfalso; omega) | ((try simp only [hq]); clear hq))) <;> (try simp only [go_sem, qa, qb, qc, qd, qe, qf, qg, qh, qi, qj, qk, ql, qm, qn, qo, qp, qq, qr, qs, reduceIte, reduceCtorEq, gb, gs, gd, s1, l1, u1, s2, l2, u2, Bank.moveD, Bank.dec, Bank.add, Bank.put, Bank.list, Bank.at, if_pos hd])) | refine Fits.of ?_ ?_ | (refine aL ?_ (fun hp => ?_) <;> ((try simp only [rowSet_fI hp, rowSet_fI2 hp]); (try simp only [rowSet_fB hp]))) | refine aE ?_ fun hp => ?_ | refine aC ?_ fun hp => ?_ | refine And.intro ?_ ?_ | clear hK K | clear hX hY X Y | clear hL L)
    all_goals try omega
  · have gA : sum ≤ b.notes.getD (src - 1).toNat 0 := by simpa only [Bank.at, Bank.list, if_neg hd] using gA
    have s1 := some_mE (l := b.notes) (k := src) (by omega) (by omega)
    have l1 := lk_mE (l := b.notes) (k := src) (by omega) (by omega)
    have u1 := fun v => upd_mE (l := b.notes) (k := src) (v := v) (by omega) (by omega)
    have p1 := parts_get q2 (src - 1).toNat
    have q8 := parts_set q2 (i := (src - 1).toNat) (v := b.notes.getD (src - 1).toNat 0 - sum) (by omega)
    have q9 := parts_len q8
    have p2 := parts_get q8 (dst - 1).toNat
    have s2 := some_mE (l := b.notes.set (src - 1).toNat (b.notes.getD (src - 1).toNat 0 - sum)) (k := dst) (by omega) (by omega)
    have l2 := lk_mE (l := b.notes.set (src - 1).toNat (b.notes.getD (src - 1).toNat 0 - sum)) (k := dst) (by omega) (by omega)
    have u2 := fun v => upd_mE (l := b.notes.set (src - 1).toNat (b.notes.getD (src - 1).toNat 0 - sum)) (k := dst) (v := v) (by omega) (by omega)
    have l3 : ((b.notes.set (src - 1).toNat (b.notes.getD (src - 1).toNat 0 - sum)).set (dst - 1).toNat ((b.notes.set (src - 1).toNat (b.notes.getD (src - 1).toNat 0 - sum)).getD (dst - 1).toNat 0 + sum)).length = 3 := by rw [List.length_set, q9]
    simp only [List.length_set] at u2
    refine CallX.of tok Tryz.func62 rfl rfl Tryz.ntmps62 Tryz.results62 rfl (by decide) (fun cx hnt hk0 => ?_)
    repeat' (first | refine AWp.seq fun K hK => ?_ | refine hK _ ?_; clear hK K | refine hX ?_; clear hX hY X Y | refine hY ?_; clear hX hY X Y | refine AWp.block ?_ | refine hL _ _ ?_ | ((first | refine AWp.region tok (by rw [hnt]; rfl) ?_ | refine AWp.cond' fun X Y hX hY => ?_ | refine AWp.skip ?_ | refine AWp.exit ?_ | refine AWp.ret ?_ | refine Fin.auto [] ?_ | refine runS_c [] (iBankOk_ok b (by omega) (by omega) h3) rfl ?_ ?_ ?_ | refine runS_c [] (userOk_ok _) rfl ?_ ?_ ?_ | refine runS_c [] (coinsOf_note kind (by omega)) rfl ?_ ?_ ?_ | refine runS_c [] (ledgerOf_ok b q6 q7) rfl ?_ ?_ ?_ | refine runS_c [2, 3] (noteCoins_ok _) rfl ?_ ?_ ?_ | refine runS_c [2, 3] (ledgerBank_ok ⟨b.own, (b.notes.set (src - 1).toNat (b.notes.getD (src - 1).toNat 0 - sum)).set (dst - 1).toNat ((b.notes.set (src - 1).toNat (b.notes.getD (src - 1).toNat 0 - sum)).getD (dst - 1).toNat 0 + sum), b.locked⟩ q6 l3) rfl ?_ ?_ ?_ | ((first | apply gR | apply gC) <;> intro hq <;> (try simp only [nT, nF, n1, n0] at hq) <;> (have hb := hq) <;> (try simp only [dT, dF, eT, eF] at hb) <;> first | (exfalso; omega) | ((try simp only [hq]); clear hq))) <;> (try simp only [go_sem, qa, qb, qc, qd, qe, qf, qg, qh, qi, qj, qk, ql, qm, qn, qo, qp, qq, qr, qs, reduceIte, reduceCtorEq, gb, gs, gd, s1, l1, u1, s2, l2, u2, Bank.moveD, Bank.dec, Bank.add, Bank.put, Bank.list, Bank.at, if_neg hd])) | refine Fits.of ?_ ?_ | (refine aL ?_ (fun hp => ?_) <;> ((try simp only [rowSet_fI hp, rowSet_fI2 hp]); (try simp only [rowSet_fB hp]))) | refine aE ?_ fun hp => ?_ | refine aC ?_ fun hp => ?_ | refine And.intro ?_ ?_ | clear hK K | clear hX hY X Y | clear hL L)
    all_goals try omega
end Go.Hw
