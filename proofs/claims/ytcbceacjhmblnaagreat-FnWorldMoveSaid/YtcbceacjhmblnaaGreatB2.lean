/- What is proved here: parts W9, W10, W11, W12, W13, W14 of the walk of the law and of its plain side; no condition but those that each theorem states. -/
import Derived.Test.YtcbceacjhmblnaaGreatB1
/- What is proved: what the reference lets a chain do: a height, a packet that is sent, one that is paid. -/
set_option linter.all false
set_option maxRecDepth 100000
set_option maxHeartbeats 4000000
namespace Go.Hw
open Go.Proofs
open Nat renaming reduceDiv → qa, reduceMod → qb, reduceAdd → qc, reduceMul → qd, reduceSub → qe, reduceLeDiff → qf, reduceBEq → qg, reduceEqDiff → qh, reduceBeqDiff → qi, reduceLT → qj
open Int renaming reduceToNat → qk, reduceAdd → ql, reduceSub → qm, reduceNeg → qn, reduceLT → qo, reduceLE → qp, reduceEq → qq, reduceBEq → qr, reduceBNe → qs
open Go.Hw renaming runG_split → gR, condG_split → gC, takG_split → gT, effG_split → gE
def pl_rle_snoc0 : Plan := (.tak 0 (.tak 2 (.all (.cons 1 (.all (.cons 3 (.all (.cons 4 (.all (.cons 5 (.all (.cons 6 (.tak 7 (.all (.cons 8 .done .nil))) .nil)) .nil)) .nil)) .nil)) (.cons 3 (.all (.cons 1 (.all (.cons 4 (.all (.cons 5 (.all (.cons 6 (.tak 7 (.all (.cons 8 .done .nil))) .nil)) .nil)) .nil)) (.cons 4 (.all (.cons 1 (.all (.cons 5 (.all (.cons 6 (.tak 7 (.all (.cons 8 .done .nil))) .nil)) .nil)) (.cons 5 (.all (.cons 1 (.all (.cons 6 (.tak 7 (.all (.cons 8 .done .nil))) .nil)) .nil)) .nil))) .nil))) .nil)))))
attribute [go_sem] pl_rle_snoc0
theorem rle_snoc {H : Heap} {fz : Nat → Prop} {τ : List (Nat × Nat)} {N : Nat} {l : List State} {s : State} {c0 c1 c2 c3 c4 c5 c6 : Cell}
    (h : cle H fz τ N c0 (.t (s.tv 0)) ∧ cle H fz τ N c1 (.t (s.tv 1)) ∧ cle H fz τ N c2 (.t (s.tv 2)) ∧ cle H fz τ N c3 (.t (s.tv 3)) ∧ cle H fz τ N c4 (.t (s.tv 4)) ∧ cle H fz τ N c5 (.t (s.tv 5)) ∧ cle H fz τ N c6 (.t (s.tv 6))) :
    rle H fz τ N 7 (l.length + 1) (app l.length (fS l) (rowOf 7 [c0, c1, c2, c3, c4, c5, c6])) (fS (l ++ [s])) := by
  intro i hi j hj
  by_cases hl : i < l.length
  · have e1 : app l.length (fS l) (rowOf 7 [c0, c1, c2, c3, c4, c5, c6]) i j = .t ((l.getD i default).tv j) := by simp [app, hl, fS]
    have e2 : fS (l ++ [s]) i j = .t ((l.getD i default).tv j) := by simp [fS, List.getD, List.getElem?_append, hl]
    rw [e1, e2]; simp [cle_t, tof_t, tle_refl]
  · have hi' : i = l.length := by omega
    subst hi'
    have e2 : fS (l ++ [s]) l.length j = .t (s.tv j) := by simp [fS, List.getD]
    have e1 : app l.length (fS l) (rowOf 7 [c0, c1, c2, c3, c4, c5, c6]) l.length j = rowOf 7 [c0, c1, c2, c3, c4, c5, c6] 0 j := by simp [app]
    rw [e1, e2]
    obtain ⟨h0, h1, h2, h3, h4, h5, h6⟩ := h
    match j, hj with
    | 0, _ => exact h0
    | 1, _ => exact h1
    | 2, _ => exact h2
    | 3, _ => exact h3
    | 4, _ => exact h4
    | 5, _ => exact h5
    | 6, _ => exact h6
theorem l12Block_ok (c : Chain) (hc : c.ok = true) : Call Tryz.prog 97 [.g (chainA c 0)] (chainH c 0) 8 (.o (.g (chainA c.block 8))) (chainH c.block 8) 16 := by
  obtain ⟨q1, q2, q3, q4, q5, q6⟩ := chain_ok hc
  obtain ⟨r1, r2, r3, r4, r5, r6, r7, r8, r9⟩ := state_ok q3
  unfold Chain.block
  by_cases hd : (c.past.length : Int) < 90
  · rw [if_pos hd]
    refine CallX.of tok Tryz.func97 rfl rfl Tryz.ntmps97 Tryz.results97 rfl (by decide) (fun cx hnt hk0 => ?_)
    
    
    repeat' (first | refine AWp.seq fun K hK => ?_ | refine hK _ ?_; clear hK K | refine hX ?_; clear hX hY X Y | refine hY ?_; clear hX hY X Y | refine AWp.block ?_ | refine hL _ _ ?_ | ((first | refine AWp.region tok (by rw [hnt]; rfl) ?_ | refine AWp.cond' fun X Y hX hY => ?_ | refine AWp.skip ?_ | refine AWp.exit ?_ | refine AWp.ret ?_ | refine Fin.auto [10, 11, 12, 13] ?_ | refine runS_v [] (l3Copy_ok c.state (by omega) (by omega) (by omega) (by omega)) ?_ ?_ ?_ ?_ ?_ | refine AWp.draw (id := 2) tok mixed pl_rle_snoc0 [] [1] (by kernel_rfl) (by kernel_rfl) (by rw [hnt]; rfl) ?_ | refine effS_v [] (l3Copy_ok c.state (by omega) (by omega) (by omega) (by omega)) ?_ ?_ ?_ ?_ ?_ | ((first | apply gR | apply gC | apply gT | apply gE) <;> intro hq <;> (try simp only [nT, nF, n1, n0] at hq) <;> (have hb := hq) <;> (try simp only [dT, dF, eT, eF] at hb) <;> first | (exfalso; omega) | ((try simp only [hq]); clear hq))) <;> (try simp only [go_sem, qa, qb, qc, qd, qe, qf, qg, qh, qi, qj, qk, ql, qm, qn, qo, qp, qq, qr, qs, reduceIte, reduceCtorEq])) | refine Fits.of ?_ ?_ | (refine aL ?_ (fun hp => ?_) <;> ((try simp only [rowSet_fI hp, rowSet_fI2 hp]); (try simp only [rowSet_fB hp]))) | refine aE ?_ fun hp => ?_ | refine aC ?_ fun hp => ?_ | refine And.intro ?_ ?_ | clear hK K | clear hX hY X Y | clear hL L)
    all_goals first | omega | refine rle_snoc ?_; simp only [go_sem, qa, qb, qc, qd, qe, qf, qg, qh, qi, qj, qk, ql, qm, qn, qo, qp, qq, qr, qs, reduceIte, reduceCtorEq] | skip
    
  · rw [if_neg hd]
    refine CallX.of tok Tryz.func97 rfl rfl Tryz.ntmps97 Tryz.results97 rfl (by decide) (fun cx hnt hk0 => ?_)
    
    repeat' (first | refine AWp.seq fun K hK => ?_ | refine hK _ ?_; clear hK K | refine hX ?_; clear hX hY X Y | refine hY ?_; clear hX hY X Y | refine AWp.block ?_ | refine hL _ _ ?_ | ((first | refine AWp.region tok (by rw [hnt]; rfl) ?_ | refine AWp.cond' fun X Y hX hY => ?_ | refine AWp.skip ?_ | refine AWp.exit ?_ | refine AWp.ret ?_ | refine Fin.auto [] ?_ | refine runS_v [] (l3Copy_ok c.state (by omega) (by omega) (by omega) (by omega)) ?_ ?_ ?_ ?_ ?_ | refine AWp.draw (id := 2) tok mixed pl_rle_snoc0 [] [1] (by kernel_rfl) (by kernel_rfl) (by rw [hnt]; rfl) ?_ | refine effS_v [] (l3Copy_ok c.state (by omega) (by omega) (by omega) (by omega)) ?_ ?_ ?_ ?_ ?_ | ((first | apply gR | apply gC | apply gT | apply gE) <;> intro hq <;> (try simp only [nT, nF, n1, n0] at hq) <;> (have hb := hq) <;> (try simp only [dT, dF, eT, eF] at hb) <;> first | (exfalso; omega) | ((try simp only [hq]); clear hq))) <;> (try simp only [go_sem, qa, qb, qc, qd, qe, qf, qg, qh, qi, qj, qk, ql, qm, qn, qo, qp, qq, qr, qs, reduceIte, reduceCtorEq])) | refine Fits.of ?_ ?_ | (refine aL ?_ (fun hp => ?_) <;> ((try simp only [rowSet_fI hp, rowSet_fI2 hp]); (try simp only [rowSet_fB hp]))) | refine aE ?_ fun hp => ?_ | refine aC ?_ fun hp => ?_ | refine And.intro ?_ ?_ | clear hK K | clear hX hY X Y | clear hL L)
    all_goals first | omega | refine rle_snoc ?_; simp only [go_sem, qa, qb, qc, qd, qe, qf, qg, qh, qi, qj, qk, ql, qm, qn, qo, qp, qq, qr, qs, reduceIte, reduceCtorEq] | skip
    
end Go.Hw
/- What is proved: how the reference pays for a packet that came. -/
set_option linter.all false
set_option maxRecDepth 100000
set_option maxHeartbeats 4000000
namespace Go.Hw
open Go.Proofs
open Nat renaming reduceDiv → qa, reduceMod → qb, reduceAdd → qc, reduceMul → qd, reduceSub → qe, reduceLeDiff → qf, reduceBEq → qg, reduceEqDiff → qh, reduceBeqDiff → qi, reduceLT → qj
open Int renaming reduceToNat → qk, reduceAdd → ql, reduceSub → qm, reduceNeg → qn, reduceLT → qo, reduceLE → qp, reduceEq → qq, reduceBEq → qr, reduceBNe → qs
open Go.Hw renaming runG_split → gR, condG_split → gC, takG_split → gT, effG_split → gE
def payD (b : Bank) (p : Packet) : Bank := if payB b p then b.backD (otherK p.kind) p.dst p.sum else b
def payN (b : Bank) (p : Packet) : Int := if payB b p then 1 else 2
theorem packet_ok {p : Packet} (h : p.ok = true) : (1 ≤ p.seq ∧ p.seq ≤ 8) ∧ (1 ≤ p.kind ∧ p.kind ≤ 2) ∧ (1 ≤ p.src ∧ p.src ≤ 3) ∧ (0 ≤ p.dst ∧ p.dst ≤ 3) ∧ (1 ≤ p.sum ∧ p.sum ≤ 9) ∧ (1 ≤ p.till ∧ p.till ≤ 90) ∧ (1 ≤ p.ver ∧ p.ver ≤ 9) := by
  simpa only [Packet.ok, Bool.and_eq_true, In_iff] using h
theorem l13Pay_ok (b : Bank) (p : Packet) (ok1 : b.ok = true) (ok2 : p.ok = true) : Call Tryz.prog 139 [.g (bankA b 0), p.av] (bankH b 0) 2 (.tup [.g (bankA (payD b p) 2), I (payN b p)]) (bankH (payD b p) 2) 4 := by
  obtain ⟨p1, p2, p3, p4, p5, p6, p7⟩ := packet_ok ok2
  by_cases h0 : p.dst = 0
  · have e : payB b p = false := by simp [payB, h0]
    have e1 : payD b p = b := by simp [payD, e]
    have e2 : payN b p = 2 := by simp [payN, e]
    rw [e1, e2]
    refine CallX.of tok Tryz.func139 rfl rfl Tryz.ntmps139 Tryz.results139 rfl (by decide) (fun cx hnt hk0 => ?_)
    repeat' (first | refine AWp.seq fun K hK => ?_ | refine hK _ ?_; clear hK K | refine hX ?_; clear hX hY X Y | refine hY ?_; clear hX hY X Y | refine AWp.block ?_ | refine hL _ _ ?_ | ((first | refine AWp.region tok (by rw [hnt]; rfl) ?_ | refine AWp.cond' fun X Y hX hY => ?_ | refine AWp.skip ?_ | refine AWp.exit ?_ | refine AWp.ret ?_ | refine Fin.auto [] ?_ | ((first | apply gR | apply gC) <;> intro hq <;> (try simp only [nT, nF, n1, n0] at hq) <;> (have hb := hq) <;> (try simp only [dT, dF, eT, eF] at hb) <;> first | (exfalso; omega) | ((try simp only [hq]); clear hq))) <;> (try simp only [go_sem, qa, qb, qc, qd, qe, qf, qg, qh, qi, qj, qk, ql, qm, qn, qo, qp, qq, qr, qs, reduceIte, reduceCtorEq])) | refine Fits.of ?_ ?_ | (refine aL ?_ (fun hp => ?_) <;> ((try simp only [rowSet_fI hp, rowSet_fI2 hp]); (try simp only [rowSet_fB hp]))) | refine aE ?_ fun hp => ?_ | refine aC ?_ fun hp => ?_ | refine And.intro ?_ ?_ | clear hK K | clear hX hY X Y | clear hL L)
  · have hk : In (otherK p.kind) 1 2 = true := by rw [In_iff]; unfold otherK; split <;> omega
    have hs : In p.dst 1 3 = true := by rw [In_iff]; omega
    have e1 : payD b p = b.back (otherK p.kind) p.dst p.sum := by simp [payD, payB, h0, Bank.back]
    have e2 : payN b p = if b.backB (otherK p.kind) p.dst p.sum then 1 else 2 := by simp [payN, payB, h0]
    rw [e1, e2]
    by_cases h2 : p.kind = 2
    · have e3 : otherK p.kind = 1 := by simp [otherK, h2]
      rw [e3] at hk ⊢
      cases e4 : b.backB 1 p.dst p.sum
      · have e5 : b.back 1 p.dst p.sum = b := by simp [Bank.back, e4]
        refine CallX.of tok Tryz.func139 rfl rfl Tryz.ntmps139 Tryz.results139 rfl (by decide) (fun cx hnt hk0 => ?_)
        repeat' (first | refine AWp.seq fun K hK => ?_ | refine hK _ ?_; clear hK K | refine hX ?_; clear hX hY X Y | refine hY ?_; clear hX hY X Y | refine AWp.block ?_ | refine hL _ _ ?_ | ((first | refine AWp.region tok (by rw [hnt]; rfl) ?_ | refine AWp.cond' fun X Y hX hY => ?_ | refine AWp.skip ?_ | refine AWp.exit ?_ | refine AWp.ret ?_ | refine Fin.auto [] ?_ | refine runS_c [_, _] (l1Back_no b 1 p.dst p.sum ok1 hs e4 (by omega) (by omega)) rfl ?_ ?_ ?_ | ((first | apply gR | apply gC) <;> intro hq <;> (try simp only [nT, nF, n1, n0] at hq) <;> (have hb := hq) <;> (try simp only [dT, dF, eT, eF] at hb) <;> first | (exfalso; omega) | ((try simp only [hq]); clear hq))) <;> (try simp only [go_sem, qa, qb, qc, qd, qe, qf, qg, qh, qi, qj, qk, ql, qm, qn, qo, qp, qq, qr, qs, reduceIte, reduceCtorEq, e4, e5, Bool.false_eq_true])) | refine Fits.of ?_ ?_ | (refine aL ?_ (fun hp => ?_) <;> ((try simp only [rowSet_fI hp, rowSet_fI2 hp]); (try simp only [rowSet_fB hp]))) | refine aE ?_ fun hp => ?_ | refine aC ?_ fun hp => ?_ | refine And.intro ?_ ?_ | clear hK K | clear hX hY X Y | clear hL L)
        
      · refine CallX.of tok Tryz.func139 rfl rfl Tryz.ntmps139 Tryz.results139 rfl (by decide) (fun cx hnt hk0 => ?_)
        repeat' (first | refine AWp.seq fun K hK => ?_ | refine hK _ ?_; clear hK K | refine hX ?_; clear hX hY X Y | refine hY ?_; clear hX hY X Y | refine AWp.block ?_ | refine hL _ _ ?_ | ((first | refine AWp.region tok (by rw [hnt]; rfl) ?_ | refine AWp.cond' fun X Y hX hY => ?_ | refine AWp.skip ?_ | refine AWp.exit ?_ | refine AWp.ret ?_ | refine Fin.auto [] ?_ | refine runS_c [_, _] (l1Back_ok b 1 p.dst p.sum ok1 hs hk (by omega) (by omega)) rfl ?_ ?_ ?_ | ((first | apply gR | apply gC) <;> intro hq <;> (try simp only [nT, nF, n1, n0] at hq) <;> (have hb := hq) <;> (try simp only [dT, dF, eT, eF] at hb) <;> first | (exfalso; omega) | ((try simp only [hq]); clear hq))) <;> (try simp only [go_sem, qa, qb, qc, qd, qe, qf, qg, qh, qi, qj, qk, ql, qm, qn, qo, qp, qq, qr, qs, reduceIte, reduceCtorEq, e4])) | refine Fits.of ?_ ?_ | (refine aL ?_ (fun hp => ?_) <;> ((try simp only [rowSet_fI hp, rowSet_fI2 hp]); (try simp only [rowSet_fB hp]))) | refine aE ?_ fun hp => ?_ | refine aC ?_ fun hp => ?_ | refine And.intro ?_ ?_ | clear hK K | clear hX hY X Y | clear hL L)
        
    · have e3 : otherK p.kind = 2 := by simp [otherK, h2]
      rw [e3] at hk ⊢
      cases e4 : b.backB 2 p.dst p.sum
      · have e5 : b.back 2 p.dst p.sum = b := by simp [Bank.back, e4]
        refine CallX.of tok Tryz.func139 rfl rfl Tryz.ntmps139 Tryz.results139 rfl (by decide) (fun cx hnt hk0 => ?_)
        repeat' (first | refine AWp.seq fun K hK => ?_ | refine hK _ ?_; clear hK K | refine hX ?_; clear hX hY X Y | refine hY ?_; clear hX hY X Y | refine AWp.block ?_ | refine hL _ _ ?_ | ((first | refine AWp.region tok (by rw [hnt]; rfl) ?_ | refine AWp.cond' fun X Y hX hY => ?_ | refine AWp.skip ?_ | refine AWp.exit ?_ | refine AWp.ret ?_ | refine Fin.auto [] ?_ | refine runS_c [_, _] (l1Back_no b 2 p.dst p.sum ok1 hs e4 (by omega) (by omega)) rfl ?_ ?_ ?_ | ((first | apply gR | apply gC) <;> intro hq <;> (try simp only [nT, nF, n1, n0] at hq) <;> (have hb := hq) <;> (try simp only [dT, dF, eT, eF] at hb) <;> first | (exfalso; omega) | ((try simp only [hq]); clear hq))) <;> (try simp only [go_sem, qa, qb, qc, qd, qe, qf, qg, qh, qi, qj, qk, ql, qm, qn, qo, qp, qq, qr, qs, reduceIte, reduceCtorEq, e4, e5, Bool.false_eq_true])) | refine Fits.of ?_ ?_ | (refine aL ?_ (fun hp => ?_) <;> ((try simp only [rowSet_fI hp, rowSet_fI2 hp]); (try simp only [rowSet_fB hp]))) | refine aE ?_ fun hp => ?_ | refine aC ?_ fun hp => ?_ | refine And.intro ?_ ?_ | clear hK K | clear hX hY X Y | clear hL L)
        
      · refine CallX.of tok Tryz.func139 rfl rfl Tryz.ntmps139 Tryz.results139 rfl (by decide) (fun cx hnt hk0 => ?_)
        repeat' (first | refine AWp.seq fun K hK => ?_ | refine hK _ ?_; clear hK K | refine hX ?_; clear hX hY X Y | refine hY ?_; clear hX hY X Y | refine AWp.block ?_ | refine hL _ _ ?_ | ((first | refine AWp.region tok (by rw [hnt]; rfl) ?_ | refine AWp.cond' fun X Y hX hY => ?_ | refine AWp.skip ?_ | refine AWp.exit ?_ | refine AWp.ret ?_ | refine Fin.auto [] ?_ | refine runS_c [_, _] (l1Back_ok b 2 p.dst p.sum ok1 hs hk (by omega) (by omega)) rfl ?_ ?_ ?_ | ((first | apply gR | apply gC) <;> intro hq <;> (try simp only [nT, nF, n1, n0] at hq) <;> (have hb := hq) <;> (try simp only [dT, dF, eT, eF] at hb) <;> first | (exfalso; omega) | ((try simp only [hq]); clear hq))) <;> (try simp only [go_sem, qa, qb, qc, qd, qe, qf, qg, qh, qi, qj, qk, ql, qm, qn, qo, qp, qq, qr, qs, reduceIte, reduceCtorEq, e4])) | refine Fits.of ?_ ?_ | (refine aL ?_ (fun hp => ?_) <;> ((try simp only [rowSet_fI hp, rowSet_fI2 hp]); (try simp only [rowSet_fB hp]))) | refine aE ?_ fun hp => ?_ | refine aC ?_ fun hp => ?_ | refine And.intro ?_ ?_ | clear hK K | clear hX hY X Y | clear hL L)
        
end Go.Hw
/- What is proved: how the reference sends a packet. -/
set_option linter.all false
set_option maxRecDepth 100000
set_option maxHeartbeats 4000000
namespace Go.Hw
open Go.Proofs
open Nat renaming reduceDiv → qa, reduceMod → qb, reduceAdd → qc, reduceMul → qd, reduceSub → qe, reduceLeDiff → qf, reduceBEq → qg, reduceEqDiff → qh, reduceBeqDiff → qi, reduceLT → qj
open Int renaming reduceToNat → qk, reduceAdd → ql, reduceSub → qm, reduceNeg → qn, reduceLT → qo, reduceLE → qp, reduceEq → qq, reduceBEq → qr, reduceBNe → qs
open Go.Hw renaming runG_split → gR, condG_split → gC, takG_split → gT, effG_split → gE
def Chain.sendN (c : Chain) (kind src dst sum till : Int) : Int := if c.sendB kind src dst sum till then c.state.sent.length + 1 else 0
theorem l12Send_ok (c : Chain) (kind src dst sum till : Int) (ok1 : c.ok = true) : Call Tryz.prog 99 [.g (chainA c 0), I kind, I src, I dst, I sum, I till] (chainH c 0) 8
    (.tup [.g (chainA (c.send kind src dst sum till) 8), I (c.sendN kind src dst sum till), BB (c.sendB kind src dst sum till)]) (chainH (c.send kind src dst sum till) 8) 16 := by
  obtain ⟨q1, q2, q3, q4, q5, q6⟩ := chain_ok ok1
  obtain ⟨r1, r2, r3, r4, r5, r6, r7, r8, r9⟩ := state_ok q3
  obtain ⟨b1, b2, b3, b4, b5⟩ := bank_ok q2
  by_cases hw : c.state.way = 3
  · cases ep : (c.packet kind src dst sum till).ok
    · have e : c.sendB kind src dst sum till = false := by simp [Chain.sendB, ep]
      have e1 : c.send kind src dst sum till = c := by simp [Chain.send, e]
      have e2 : c.sendN kind src dst sum till = 0 := by simp [Chain.sendN, e]
      rw [e1, e2, e]
      refine CallX.of tok Tryz.func99 rfl rfl Tryz.ntmps99 Tryz.results99 rfl (by decide) (fun cx hnt hk0 => ?_)
      
      repeat' (first | refine AWp.seq fun K hK => ?_ | refine hK _ ?_; clear hK K | refine hX ?_; clear hX hY X Y | refine hY ?_; clear hX hY X Y | refine AWp.block ?_ | refine hL _ _ ?_ | ((first | refine AWp.region tok (by rw [hnt]; rfl) ?_ | refine AWp.cond' fun X Y hX hY => ?_ | refine AWp.skip ?_ | refine AWp.exit ?_ | refine AWp.ret ?_ | refine Fin.auto [] ?_ | refine runS_c [] (PacketOk_ok (c.packet kind src dst sum till)) rfl ?_ ?_ ?_ | refine AWp.draw (id := 11) tok mixed (.tak 0 (.tak 1 (.tak 2 (.all (.cons 3 (.tak 4 (.tak 5 .done)) .nil))))) [] [6, 12, 15] (by kernel_rfl) (by kernel_rfl) (by rw [hnt]; rfl) ?_ | refine effS_c [] (PacketOk_ok (c.packet kind src dst sum till)) rfl ?_ ?_ ?_ | ((first | apply gR | apply gC | apply gT | apply gE) <;> intro hq <;> (try simp only [nT, nF, n1, n0] at hq) <;> (have hb := hq) <;> (try simp only [dT, dF, eT, eF] at hb) <;> first | (exfalso; omega) | ((try simp only [hq]); clear hq))) <;> (try simp only [go_sem, qa, qb, qc, qd, qe, qf, qg, qh, qi, qj, qk, ql, qm, qn, qo, qp, qq, qr, qs, reduceIte, reduceCtorEq, ep])) | refine Fits.of ?_ ?_ | (refine aL ?_ (fun hp => ?_) <;> ((try simp only [rowSet_fI hp, rowSet_fI2 hp]); (try simp only [rowSet_fB hp]))) | refine aE ?_ fun hp => ?_ | refine aC ?_ fun hp => ?_ | refine And.intro ?_ ?_ | clear hK K | clear hX hY X Y | clear hL L)
      all_goals omega
    · obtain ⟨p1, p2, p3, p4, p5, p6, p7⟩ := packet_ok ep
      simp only [Chain.packet] at p1 p2 p3 p4 p5 p6 p7
      have ep2 := ep
      simp only [Chain.packet] at ep2
      have hs : In src 1 3 = true := by rw [In_iff]; exact p3
      cases eA : c.bank.awayB kind src sum
      · have e : c.sendB kind src dst sum till = false := by simp [Chain.sendB, eA]
        have e1 : c.send kind src dst sum till = c := by simp [Chain.send, e]
        have e2 : c.sendN kind src dst sum till = 0 := by simp [Chain.sendN, e]
        rw [e1, e2, e]
        refine CallX.of tok Tryz.func99 rfl rfl Tryz.ntmps99 Tryz.results99 rfl (by decide) (fun cx hnt hk0 => ?_)
        
        repeat' (first | refine AWp.seq fun K hK => ?_ | refine hK _ ?_; clear hK K | refine hX ?_; clear hX hY X Y | refine hY ?_; clear hX hY X Y | refine AWp.block ?_ | refine hL _ _ ?_ | ((first | refine AWp.region tok (by rw [hnt]; rfl) ?_ | refine AWp.cond' fun X Y hX hY => ?_ | refine AWp.skip ?_ | refine AWp.exit ?_ | refine AWp.ret ?_ | refine Fin.auto [] ?_ | refine runS_c [] (PacketOk_ok (c.packet kind src dst sum till)) rfl ?_ ?_ ?_ | refine runS_c [_, _] (l1Away_no c.bank kind src sum q2 hs eA) rfl ?_ ?_ ?_ | refine AWp.draw (id := 11) tok mixed (.tak 0 (.tak 1 (.tak 2 (.all (.cons 3 (.tak 4 (.tak 5 .done)) .nil))))) [] [6, 12, 15] (by kernel_rfl) (by kernel_rfl) (by rw [hnt]; rfl) ?_ | refine effS_c [] (PacketOk_ok (c.packet kind src dst sum till)) rfl ?_ ?_ ?_ | refine effS_c [_, _] (l1Away_no c.bank kind src sum q2 hs eA) rfl ?_ ?_ ?_ | ((first | apply gR | apply gC | apply gT | apply gE) <;> intro hq <;> (try simp only [nT, nF, n1, n0] at hq) <;> (have hb := hq) <;> (try simp only [dT, dF, eT, eF] at hb) <;> first | (exfalso; omega) | ((try simp only [hq]); clear hq))) <;> (try simp only [go_sem, qa, qb, qc, qd, qe, qf, qg, qh, qi, qj, qk, ql, qm, qn, qo, qp, qq, qr, qs, reduceIte, reduceCtorEq, ep, eA])) | refine Fits.of ?_ ?_ | (refine aL ?_ (fun hp => ?_) <;> ((try simp only [rowSet_fI hp, rowSet_fI2 hp]); (try simp only [rowSet_fB hp]))) | refine aE ?_ fun hp => ?_ | refine aC ?_ fun hp => ?_ | refine And.intro ?_ ?_ | clear hK K | clear hX hY X Y | clear hL L)
        all_goals omega
      · have e : c.sendB kind src dst sum till = true := by simp [Chain.sendB, eA, ep, hw]
        have e1 : c.send kind src dst sum till = c.sendD kind src dst sum till := by simp [Chain.send, e]
        have e2 : c.sendN kind src dst sum till = c.state.sent.length + 1 := by simp [Chain.sendN, e]
        have e3 : c.bank.away kind src sum = c.bank.awayD kind src sum := by simp [Bank.away, eA]
        rw [e1, e2, e]
        refine CallX.of tok Tryz.func99 rfl rfl Tryz.ntmps99 Tryz.results99 rfl (by decide) (fun cx hnt hk0 => ?_)
        
        repeat' (first | refine AWp.seq fun K hK => ?_ | refine hK _ ?_; clear hK K | refine hX ?_; clear hX hY X Y | refine hY ?_; clear hX hY X Y | refine AWp.block ?_ | refine hL _ _ ?_ | ((first | refine AWp.region tok (by rw [hnt]; rfl) ?_ | refine AWp.cond' fun X Y hX hY => ?_ | refine AWp.skip ?_ | refine AWp.exit ?_ | refine AWp.ret ?_ | refine Fin.auto [] ?_ | refine runS_c [] (PacketOk_ok (c.packet kind src dst sum till)) rfl ?_ ?_ ?_ | refine runS_c [_, _] (l1Away_ok c.bank kind src sum q2 hs (by omega) (by omega)) rfl ?_ ?_ ?_ | refine AWp.draw (id := 11) tok mixed (.tak 0 (.tak 1 (.tak 2 (.all (.cons 3 (.tak 4 (.tak 5 .done)) .nil))))) [8, 10] [6, 12, 15] (by kernel_rfl) (by kernel_rfl) (by rw [hnt]; rfl) ?_ | refine effS_c [] (PacketOk_ok (c.packet kind src dst sum till)) rfl ?_ ?_ ?_ | refine effS_c [_, _] (l1Away_ok c.bank kind src sum q2 hs (by omega) (by omega)) rfl ?_ ?_ ?_ | ((first | apply gR | apply gC | apply gT | apply gE) <;> intro hq <;> (try simp only [nT, nF, n1, n0] at hq) <;> (have hb := hq) <;> (try simp only [dT, dF, eT, eF] at hb) <;> first | (exfalso; omega) | ((try simp only [hq]); clear hq))) <;> (try simp only [go_sem, qa, qb, qc, qd, qe, qf, qg, qh, qi, qj, qk, ql, qm, qn, qo, qp, qq, qr, qs, reduceIte, reduceCtorEq, ep2, eA, e3, Chain.sendD, Chain.packet])) | refine Fits.of ?_ ?_ | (refine aL ?_ (fun hp => ?_) <;> ((try simp only [rowSet_fI hp, rowSet_fI2 hp]); (try simp only [rowSet_fB hp]))) | refine aE ?_ fun hp => ?_ | refine aC ?_ fun hp => ?_ | refine And.intro ?_ ?_ | clear hK K | clear hX hY X Y | clear hL L)
        all_goals first | omega | trace_state
  · have e : c.sendB kind src dst sum till = false := by simp [Chain.sendB, hw]
    have e1 : c.send kind src dst sum till = c := by simp [Chain.send, e]
    have e2 : c.sendN kind src dst sum till = 0 := by simp [Chain.sendN, e]
    rw [e1, e2, e]
    refine CallX.of tok Tryz.func99 rfl rfl Tryz.ntmps99 Tryz.results99 rfl (by decide) (fun cx hnt hk0 => ?_)
    
    repeat' (first | refine AWp.seq fun K hK => ?_ | refine hK _ ?_; clear hK K | refine hX ?_; clear hX hY X Y | refine hY ?_; clear hX hY X Y | refine AWp.block ?_ | refine hL _ _ ?_ | ((first | refine AWp.region tok (by rw [hnt]; rfl) ?_ | refine AWp.cond' fun X Y hX hY => ?_ | refine AWp.skip ?_ | refine AWp.exit ?_ | refine AWp.ret ?_ | refine Fin.auto [] ?_ | refine AWp.draw (id := 11) tok mixed (.tak 0 (.tak 1 (.tak 2 (.all (.cons 3 (.tak 4 (.tak 5 .done)) .nil))))) [] [6, 12, 15] (by kernel_rfl) (by kernel_rfl) (by rw [hnt]; rfl) ?_ | ((first | apply gR | apply gC | apply gT | apply gE) <;> intro hq <;> (try simp only [nT, nF, n1, n0] at hq) <;> (have hb := hq) <;> (try simp only [dT, dF, eT, eF] at hb) <;> first | (exfalso; omega) | ((try simp only [hq]); clear hq))) <;> (try simp only [go_sem, qa, qb, qc, qd, qe, qf, qg, qh, qi, qj, qk, ql, qm, qn, qo, qp, qq, qr, qs, reduceIte, reduceCtorEq])) | refine Fits.of ?_ ?_ | (refine aL ?_ (fun hp => ?_) <;> ((try simp only [rowSet_fI hp, rowSet_fI2 hp]); (try simp only [rowSet_fB hp]))) | refine aE ?_ fun hp => ?_ | refine aC ?_ fun hp => ?_ | refine And.intro ?_ ?_ | clear hK K | clear hX hY X Y | clear hL L)
    all_goals omega
end Go.Hw
/- What is proved: what the reference looks at in a state and in a chain. -/
set_option linter.all false
set_option maxRecDepth 100000
set_option maxHeartbeats 4000000
namespace Go.Hw
open Go.Proofs
open Nat renaming reduceDiv → qa, reduceMod → qb, reduceAdd → qc, reduceMul → qd, reduceSub → qe, reduceLeDiff → qf, reduceBEq → qg, reduceEqDiff → qh, reduceBeqDiff → qi, reduceLT → qj
open Int renaming reduceToNat → qk, reduceAdd → ql, reduceSub → qm, reduceNeg → qn, reduceLT → qo, reduceLE → qp, reduceEq → qq, reduceBEq → qr, reduceBNe → qs
open Go.Hw renaming runG_split → gR, condG_split → gC, takG_split → gT, effG_split → gE
theorem liveN_take (l : List Bool) (i : Nat) (h : i < l.length) : liveN (l.take (i + 1)) = liveN (l.take i) + (if l.getD i false = true then 1 else 0) := by
  unfold liveN
  rw [List.take_succ, List.filter_append, List.length_append]
  simp [List.getD, h]
  cases l[i] <;> simp
theorem liveN_le (l : List Bool) : liveN l ≤ l.length := List.length_filter_le _ _
theorem l3Live_ok (s : State) (h : s.live.length ≤ 1000) : Call Tryz.prog 152 [s.av] [] 0 (.o (I s.lives)) [] 0 := by
  refine CallX.of tok Tryz.func152 rfl rfl Tryz.ntmps152 Tryz.results152 rfl (by decide) (fun cx hnt hk0 => ?_)
  repeat' (first | refine AWp.seq fun K hK => ?_ | refine hK _ ?_; clear hK K | refine hX ?_; clear hX hY X Y | refine hY ?_; clear hX hY X Y | refine AWp.block ?_ | refine hL _ _ ?_ | ((first | refine AWp.region tok (by rw [hnt]; rfl) ?_ | refine AWp.cond' fun X Y hX hY => ?_ | refine AWp.skip ?_ | refine AWp.exit ?_ | refine AWp.ret ?_ | refine Fin.auto [] ?_ | ((first | apply gR | apply gC) <;> intro hq <;> (try simp only [nT, nF, n1, n0] at hq) <;> (have hb := hq) <;> (try simp only [dT, dF, eT, eF] at hb) <;> first | (exfalso; omega) | ((try simp only [hq]); clear hq))) <;> (try simp only [go_sem, qa, qb, qc, qd, qe, qf, qg, qh, qi, qj, qk, ql, qm, qn, qo, qp, qq, qr, qs, reduceIte, reduceCtorEq])) | refine Fits.of ?_ ?_ | (refine aL ?_ (fun hp => ?_) <;> ((try simp only [rowSet_fI hp, rowSet_fI2 hp]); (try simp only [rowSet_fB hp]))) | refine aE ?_ fun hp => ?_ | refine aC ?_ fun hp => ?_ | refine And.intro ?_ ?_ | clear hK K | clear hX hY X Y | clear hL L)
  refine AWp.loop (fun i : Nat => ⟨[(1, .o (.c (.ptr 0 0 0 0))), (3, .o (I (liveN (s.live.take i)))), (4, .o (I i))], [(0, s.box)], 1⟩) (fun i => i ≤ s.live.length) (fun i => s.live.length - i) 0 (Nat.zero_le _) ?_ ?_
  · refine SLe.auto hk0 [] ?_; simp only [go_sem, qa, qb, qc, qd, qe, qf, qg, qh, qi, qj, qk, ql, qm, qn, qo, qp, qq, qr, qs, reduceIte, reduceCtorEq, List.take_zero, liveN, List.filter_nil]
    simp
  intro i hi
  have h1 := liveN_le (s.live.take i)
  rw [List.length_take] at h1
  repeat' (first | refine AWp.seq fun K hK => ?_ | refine hK _ ?_; clear hK K | refine hX ?_; clear hX hY X Y | refine hY ?_; clear hX hY X Y | refine AWp.block ?_ | refine hL _ _ ?_ | ((first | refine AWp.region tok (by rw [hnt]; rfl) ?_ | refine AWp.cond' fun X Y hX hY => ?_ | refine AWp.skip ?_ | refine AWp.exit ?_ | refine AWp.ret ?_ | refine Fin.auto [] ?_ | refine SLe.auto hk0 [] ?_ | ((first | apply gR | apply gC) <;> intro hq <;> (try simp only [nT, nF, n1, n0] at hq) <;> (have hb := hq) <;> (try simp only [dT, dF, eT, eF] at hb) <;> first | (exfalso; omega) | ((try simp only [hq]); clear hq))) <;> (try simp only [go_sem, qa, qb, qc, qd, qe, qf, qg, qh, qi, qj, qk, ql, qm, qn, qo, qp, qq, qr, qs, reduceIte, reduceCtorEq])) | refine ⟨i + 1, ?_, ?_, ?_⟩ | refine Fits.of ?_ ?_ | (refine aL ?_ (fun hp => ?_) <;> ((try simp only [rowSet_fI hp, rowSet_fI2 hp]); (try simp only [rowSet_fB hp]))) | refine aE ?_ fun hp => ?_ | refine aC ?_ fun hp => ?_ | refine And.intro ?_ ?_ | clear hK K | clear hX hY X Y | clear hL L)
  all_goals try (first | omega | (simp only [decide_eq_true_eq, decide_eq_false_iff_not, decide_eq_decide]; omega))
  · rw [liveN_take _ _ (by omega), if_pos hb]; simp
  · rw [liveN_take _ _ (by omega), if_neg (by simpa using hb)]; simp
  · rw [State.lives, show i = s.live.length from by omega, List.take_length]
theorem l3Has_ok (s : State) (p : Packet) (h1 : s.sent.length ≤ 1000) (h2 : s.live.length = s.sent.length) : Call Tryz.prog 138 [s.av, p.av] [] 0 (.o (BB (s.hasB p))) [] 0 := by
  refine CallX.of tok Tryz.func138 rfl rfl Tryz.ntmps138 Tryz.results138 rfl (by decide) (fun cx hnt hk0 => ?_)
  
  repeat' (first | refine AWp.seq fun K hK => ?_ | refine hK _ ?_; clear hK K | refine hX ?_; clear hX hY X Y | refine hY ?_; clear hX hY X Y | refine AWp.block ?_ | refine hL _ _ ?_ | ((first | refine AWp.region tok (by rw [hnt]; rfl) ?_ | refine AWp.cond' fun X Y hX hY => ?_ | refine AWp.skip ?_ | refine AWp.exit ?_ | refine AWp.ret ?_ | refine Fin.auto [] ?_ | refine runS_c [] (l6In_ok _ _ _) rfl ?_ ?_ ?_ | refine AWp.draw (id := 1) tok mixed (.tak 0 (.tak 1 (.tak 2 (.tak 3 (.tak 4 (.all (.cons 5 (.tak 6 (.tak 7 (.tak 8 (.tak 9 (.tak 10 (.tak 11 (.tak 12 (.tak 13 (.tak 14 (.tak 15 (.tak 16 (.tak 17 (.tak 18 (.tak 19 (.tak 20 (.tak 21 (.tak 22 (.tak 23 (.tak 24 (.tak 25 (.tak 26 .done))))))))))))))))))))) .nil))))))) [0, 1] [2, 3] (by kernel_rfl) (by kernel_rfl) (by rw [hnt]; rfl) ?_ | refine effS_c [] (l6In_ok _ _ _) rfl ?_ ?_ ?_ | ((first | apply gR | apply gC | apply gT | apply gE) <;> intro hq <;> (try simp only [nT, nF, n1, n0] at hq) <;> (have hb := hq) <;> (try simp only [dT, dF, eT, eF] at hb) <;> first | (exfalso; omega) | ((try simp only [hq]); clear hq))) <;> (try simp only [go_sem, qa, qb, qc, qd, qe, qf, qg, qh, qi, qj, qk, ql, qm, qn, qo, qp, qq, qr, qs, reduceIte, reduceCtorEq])) | refine Fits.of ?_ ?_ | (refine aL ?_ (fun hp => ?_) <;> ((try simp only [rowSet_fI hp, rowSet_fI2 hp]); (try simp only [rowSet_fB hp]))) | refine aE ?_ fun hp => ?_ | refine aC ?_ fun hp => ?_ | refine And.intro ?_ ?_ | clear hK K | clear hX hY X Y | clear hL L)
  all_goals try (simp only [In_iff] at *; omega)
  all_goals (unfold State.hasB; generalize (p.seq - 1).toNat = q at *
             simp only [Bool.and_eq_true, Bool.and_eq_false_iff, decide_eq_true_eq, decide_eq_false_iff_not, Packet.eq_iff] at *
             first | (simp [-List.getD_eq_getElem?_getD, *]; done) | (simp [-List.getD_eq_getElem?_getD, *]; grind))
theorem l13Mine_ok (c : Chain) (seq : Int) (h1 : c.state.sent.length ≤ 1000) (h2 : c.state.live.length = c.state.sent.length) : Call Tryz.prog 140 [c.av, I seq] [] 0 (.o (BB (c.mine seq))) [] 0 := by
  refine CallX.of tok Tryz.func140 rfl rfl Tryz.ntmps140 Tryz.results140 rfl (by decide) (fun cx hnt hk0 => ?_)
  repeat' (first | refine AWp.seq fun K hK => ?_ | refine hK _ ?_; clear hK K | refine hX ?_; clear hX hY X Y | refine hY ?_; clear hX hY X Y | refine AWp.block ?_ | refine hL _ _ ?_ | ((first | refine AWp.region tok (by rw [hnt]; rfl) ?_ | refine AWp.cond' fun X Y hX hY => ?_ | refine AWp.skip ?_ | refine AWp.exit ?_ | refine AWp.ret ?_ | refine Fin.auto [] ?_ | refine runS_c [] (l6In_ok _ _ _) rfl ?_ ?_ ?_ | ((first | apply gR | apply gC) <;> intro hq <;> (try simp only [nT, nF, n1, n0] at hq) <;> (have hb := hq) <;> (try simp only [dT, dF, eT, eF] at hb) <;> first | (exfalso; omega) | ((try simp only [hq]); clear hq))) <;> (try simp only [go_sem, qa, qb, qc, qd, qe, qf, qg, qh, qi, qj, qk, ql, qm, qn, qo, qp, qq, qr, qs, reduceIte, reduceCtorEq])) | refine Fits.of ?_ ?_ | (refine aL ?_ (fun hp => ?_) <;> ((try simp only [rowSet_fI hp, rowSet_fI2 hp]); (try simp only [rowSet_fB hp]))) | refine aE ?_ fun hp => ?_ | refine aC ?_ fun hp => ?_ | refine And.intro ?_ ?_ | clear hK K | clear hX hY X Y | clear hL L)
  all_goals try (simp only [In_iff] at *; omega)
  all_goals simp [-List.getD_eq_getElem?_getD, Chain.mine, *]
theorem l21Among_ok (l : List Int) (n : Int) (h1 : l.length ≤ 1000) : Call Tryz.prog 128 [.c (.t (intsT l)), I n] [] 0 (.o (BB (l.contains n))) [] 0 := by
  refine CallX.of tok Tryz.func128 rfl rfl Tryz.ntmps128 Tryz.results128 rfl (by decide) (fun cx hnt hk0 => ?_)
  repeat' (first | refine AWp.seq fun K hK => ?_ | refine hK _ ?_; clear hK K | refine hX ?_; clear hX hY X Y | refine hY ?_; clear hX hY X Y | refine AWp.block ?_ | refine hL _ _ ?_ | ((first | refine AWp.region tok (by rw [hnt]; rfl) ?_ | refine AWp.cond' fun X Y hX hY => ?_ | refine AWp.skip ?_ | refine AWp.exit ?_ | refine AWp.ret ?_ | refine Fin.auto [] ?_ | ((first | apply gR | apply gC) <;> intro hq <;> (try simp only [nT, nF, n1, n0] at hq) <;> (have hb := hq) <;> (try simp only [dT, dF, eT, eF] at hb) <;> first | (exfalso; omega) | ((try simp only [hq]); clear hq))) <;> (try simp only [go_sem, qa, qb, qc, qd, qe, qf, qg, qh, qi, qj, qk, ql, qm, qn, qo, qp, qq, qr, qs, reduceIte, reduceCtorEq])) | refine Fits.of ?_ ?_ | (refine aL ?_ (fun hp => ?_) <;> ((try simp only [rowSet_fI hp, rowSet_fI2 hp]); (try simp only [rowSet_fB hp]))) | refine aE ?_ fun hp => ?_ | refine aC ?_ fun hp => ?_ | refine And.intro ?_ ?_ | clear hK K | clear hX hY X Y | clear hL L)
  refine AWp.loop (fun i : Nat => ⟨[(0, .o (.c (.t (intsT l)))), (1, .o (I n)), (5, .o (I i))], [], 0⟩) (fun i => i ≤ l.length ∧ ∀ j, j < i → l.getD j 0 ≠ n) (fun i => l.length - i) 0 ⟨Nat.zero_le _, fun j hj => absurd hj (Nat.not_lt_zero j)⟩ ?_ ?_
  · refine SLe.auto hk0 [] ?_; simp only [go_sem, qa, qb, qc, qd, qe, qf, qg, qh, qi, qj, qk, ql, qm, qn, qo, qp, qq, qr, qs, reduceIte, reduceCtorEq]
    simp
  intro i ⟨hi, hr⟩
  repeat' (first | refine AWp.seq fun K hK => ?_ | refine hK _ ?_; clear hK K | refine hX ?_; clear hX hY X Y | refine hY ?_; clear hX hY X Y | refine AWp.block ?_ | refine hL _ _ ?_ | ((first | refine AWp.region tok (by rw [hnt]; rfl) ?_ | refine AWp.cond' fun X Y hX hY => ?_ | refine AWp.skip ?_ | refine AWp.exit ?_ | refine AWp.ret ?_ | refine Fin.auto [] ?_ | refine SLe.auto hk0 [] ?_ | ((first | apply gR | apply gC) <;> intro hq <;> (try simp only [nT, nF, n1, n0] at hq) <;> (have hb := hq) <;> (try simp only [dT, dF, eT, eF] at hb) <;> first | (exfalso; omega) | ((try simp only [hq]); clear hq))) <;> (try simp only [go_sem, qa, qb, qc, qd, qe, qf, qg, qh, qi, qj, qk, ql, qm, qn, qo, qp, qq, qr, qs, reduceIte, reduceCtorEq])) | refine ⟨i + 1, ?_, ?_, ?_⟩ | refine Fits.of ?_ ?_ | (refine aL ?_ (fun hp => ?_) <;> ((try simp only [rowSet_fI hp, rowSet_fI2 hp]); (try simp only [rowSet_fB hp]))) | refine aE ?_ fun hp => ?_ | refine aC ?_ fun hp => ?_ | refine And.intro ?_ ?_ | clear hK K | clear hX hY X Y | clear hL L)
  all_goals try (first | omega | (simp only [decide_eq_true_eq, decide_eq_false_iff_not, decide_eq_decide]; omega))
  · exact (contains_true (by omega) hb).symm
  · intro j hj
    rcases Nat.lt_succ_iff_lt_or_eq.1 hj with h' | rfl
    · exact hr j h'
    · exact hb
  · exact (contains_false fun j hj => hr j (by omega)).symm
theorem l11May_ok (s o : State) (step : Int) (h1 : s.live.length ≤ 1000) (h2 : o.live.length ≤ 1000) (h3 : s.ver ≤ 1000) (h4 : 0 ≤ s.ver) : Call Tryz.prog 135 [s.av, o.av, I step] [] 0 (.o (BB (wayMay s o step))) [] 0 := by
  refine CallX.of tok Tryz.func135 rfl rfl Tryz.ntmps135 Tryz.results135 rfl (by decide) (fun cx hnt hk0 => ?_)
  repeat' (first | refine AWp.seq fun K hK => ?_ | refine hK _ ?_; clear hK K | refine hX ?_; clear hX hY X Y | refine hY ?_; clear hX hY X Y | refine AWp.block ?_ | refine hL _ _ ?_ | ((first | refine AWp.region tok (by rw [hnt]; rfl) ?_ | refine AWp.cond' fun X Y hX hY => ?_ | refine AWp.skip ?_ | refine AWp.exit ?_ | refine AWp.ret ?_ | refine Fin.auto [] ?_ | refine runS_c [] (l3Live_ok s h1) rfl ?_ ?_ ?_ | refine runS_c [] (l3Live_ok o h2) rfl ?_ ?_ ?_ | ((first | apply gR | apply gC) <;> intro hq <;> (try simp only [nT, nF, n1, n0] at hq) <;> (have hb := hq) <;> (try simp only [dT, dF, eT, eF] at hb) <;> first | (exfalso; omega) | ((try simp only [hq]); clear hq))) <;> (try simp only [go_sem, qa, qb, qc, qd, qe, qf, qg, qh, qi, qj, qk, ql, qm, qn, qo, qp, qq, qr, qs, reduceIte, reduceCtorEq])) | refine Fits.of ?_ ?_ | (refine aL ?_ (fun hp => ?_) <;> ((try simp only [rowSet_fI hp, rowSet_fI2 hp]); (try simp only [rowSet_fB hp]))) | refine aE ?_ fun hp => ?_ | refine aC ?_ fun hp => ?_ | refine And.intro ?_ ?_ | clear hK K | clear hX hY X Y | clear hL L)
  all_goals first | omega | (simp [wayMay, *]; done) | (simp [wayMay, *]; intros; exfalso; omega)
theorem l11Do_ok (s o : State) (step : Int) (h3 : s.ver ≤ 1000) (h4 : 0 ≤ s.ver) : Call Tryz.prog 136 [.g (stateA s 0), o.av, I step] [] 4 (.o (.g (stateA (wayDo s o step) 0))) [] 4 := by
  refine CallX.of tok Tryz.func136 rfl rfl Tryz.ntmps136 Tryz.results136 rfl (by decide) (fun cx hnt hk0 => ?_)
  repeat' (first | refine AWp.seq fun K hK => ?_ | refine hK _ ?_; clear hK K | refine hX ?_; clear hX hY X Y | refine hY ?_; clear hX hY X Y | refine AWp.block ?_ | refine hL _ _ ?_ | ((first | refine AWp.region tok (by rw [hnt]; rfl) ?_ | refine AWp.cond' fun X Y hX hY => ?_ | refine AWp.skip ?_ | refine AWp.exit ?_ | refine AWp.ret ?_ | refine Fin.auto [] ?_ | ((first | apply gR | apply gC) <;> intro hq <;> (try simp only [nT, nF, n1, n0] at hq) <;> (have hb := hq) <;> (try simp only [dT, dF, eT, eF] at hb) <;> first | (exfalso; omega) | ((try simp only [hq]); clear hq))) <;> (try simp only [go_sem, qa, qb, qc, qd, qe, qf, qg, qh, qi, qj, qk, ql, qm, qn, qo, qp, qq, qr, qs, reduceIte, reduceCtorEq])) | refine Fits.of ?_ ?_ | (refine aL ?_ (fun hp => ?_) <;> ((try simp only [rowSet_fI hp, rowSet_fI2 hp]); (try simp only [rowSet_fB hp]))) | refine aE ?_ fun hp => ?_ | refine aC ?_ fun hp => ?_ | refine And.intro ?_ ?_ | clear hK K | clear hX hY X Y | clear hL L)
  all_goals first | omega | simp [wayDo, *]
end Go.Hw
/- What is proved: a step of a way, in the reference. -/
set_option linter.all false
set_option maxRecDepth 100000
set_option maxHeartbeats 4000000
namespace Go.Hw
open Go.Proofs
open Nat renaming reduceDiv → qa, reduceMod → qb, reduceAdd → qc, reduceMul → qd, reduceSub → qe, reduceLeDiff → qf, reduceBEq → qg, reduceEqDiff → qh, reduceBeqDiff → qi, reduceLT → qj
open Int renaming reduceToNat → qk, reduceAdd → ql, reduceSub → qm, reduceNeg → qn, reduceLT → qo, reduceLE → qp, reduceEq → qq, reduceBEq → qr, reduceBNe → qs
open Go.Hw renaming runG_split → gR, condG_split → gC, takG_split → gT, effG_split → gE
theorem wayDo_rows (s o : State) (n : Int) : (wayDo s o n).sent = s.sent ∧ (wayDo s o n).live = s.live ∧ (wayDo s o n).back = s.back ∧ (wayDo s o n).got = s.got := by
  unfold wayDo
  refine ⟨?_, ?_, ?_, ?_⟩ <;> (repeat' split) <;> rfl
theorem l13Step_ok (c : Chain) (s : State) (n : Int) (ok1 : c.ok = true) (ok2 : s.ok = true) : Call Tryz.prog 101 [.g (chainA c 0), s.av, I n] (chainH c 0) 8 (.tup [.g (chainA (c.step s n) 0), BB (wayMay c.state s n)]) (chainH (c.step s n) 0) 8 := by
  obtain ⟨q1, q2, q3, q4, q5, q6⟩ := chain_ok ok1
  obtain ⟨r1, r2, r3, r4, r5, r6, r7, r8, r9⟩ := state_ok q3
  obtain ⟨t1, t2, t3, t4, t5, t6, t7, t8, t9⟩ := state_ok ok2
  cases e : wayMay c.state s n
  · have e1 : c.step s n = c := by simp [Chain.step, e]
    rw [e1]
    refine CallX.of tok Tryz.func101 rfl rfl Tryz.ntmps101 Tryz.results101 rfl (by decide) (fun cx hnt hk0 => ?_)
    repeat' (first | refine AWp.seq fun K hK => ?_ | refine hK _ ?_; clear hK K | refine hX ?_; clear hX hY X Y | refine hY ?_; clear hX hY X Y | refine AWp.block ?_ | refine hL _ _ ?_ | ((first | refine AWp.region tok (by rw [hnt]; rfl) ?_ | refine AWp.cond' fun X Y hX hY => ?_ | refine AWp.skip ?_ | refine AWp.exit ?_ | refine AWp.ret ?_ | refine Fin.auto [] ?_ | refine runS_v [] (l11May_ok c.state s n (by omega) (by omega) (by omega) (by omega)) ?_ ?_ ?_ ?_ ?_ | ((first | apply gR | apply gC) <;> intro hq <;> (try simp only [nT, nF, n1, n0] at hq) <;> (have hb := hq) <;> (try simp only [dT, dF, eT, eF] at hb) <;> first | (exfalso; omega) | ((try simp only [hq]); clear hq))) <;> (try simp only [go_sem, qa, qb, qc, qd, qe, qf, qg, qh, qi, qj, qk, ql, qm, qn, qo, qp, qq, qr, qs, reduceIte, reduceCtorEq, e])) | refine Fits.of ?_ ?_ | (refine aL ?_ (fun hp => ?_) <;> ((try simp only [rowSet_fI hp, rowSet_fI2 hp]); (try simp only [rowSet_fB hp]))) | refine aE ?_ fun hp => ?_ | refine aC ?_ fun hp => ?_ | refine And.intro ?_ ?_ | clear hK K | clear hX hY X Y | clear hL L)
    all_goals first | omega | trace_state
  · have e1 : c.step s n = { c with state := wayDo c.state s n } := by simp [Chain.step, e]
    rw [e1]
    refine CallX.of tok Tryz.func101 rfl rfl Tryz.ntmps101 Tryz.results101 rfl (by decide) (fun cx hnt hk0 => ?_)
    repeat' (first | refine AWp.seq fun K hK => ?_ | refine hK _ ?_; clear hK K | refine hX ?_; clear hX hY X Y | refine hY ?_; clear hX hY X Y | refine AWp.block ?_ | refine hL _ _ ?_ | ((first | refine AWp.region tok (by rw [hnt]; rfl) ?_ | refine AWp.cond' fun X Y hX hY => ?_ | refine AWp.skip ?_ | refine AWp.exit ?_ | refine AWp.ret ?_ | refine Fin.auto [] ?_ | refine runS_v [] (l11May_ok c.state s n (by omega) (by omega) (by omega) (by omega)) ?_ ?_ ?_ ?_ ?_ | refine runS_c [_, _, _, _] (l11Do_ok c.state s n (by omega) (by omega)) rfl ?_ ?_ ?_ | ((first | apply gR | apply gC) <;> intro hq <;> (try simp only [nT, nF, n1, n0] at hq) <;> (have hb := hq) <;> (try simp only [dT, dF, eT, eF] at hb) <;> first | (exfalso; omega) | ((try simp only [hq]); clear hq))) <;> (try simp only [go_sem, qa, qb, qc, qd, qe, qf, qg, qh, qi, qj, qk, ql, qm, qn, qo, qp, qq, qr, qs, reduceIte, reduceCtorEq, e])) | refine Fits.of ?_ ?_ | (refine aL ?_ (fun hp => ?_) <;> ((try simp only [rowSet_fI hp, rowSet_fI2 hp]); (try simp only [rowSet_fB hp]))) | refine aE ?_ fun hp => ?_ | refine aC ?_ fun hp => ?_ | refine And.intro ?_ ?_ | clear hK K | clear hX hY X Y | clear hL L)
    all_goals first | omega | (simp [wayDo_rows, rle_fI, rle_fB, rle_fP]; done) | trace_state
end Go.Hw
/- What is proved: how the reference settles a packet, and what it lets a chain know of one. -/
set_option linter.all false
set_option maxRecDepth 100000
set_option maxHeartbeats 4000000
namespace Go.Hw
open Go.Proofs
open Nat renaming reduceDiv → qa, reduceMod → qb, reduceAdd → qc, reduceMul → qd, reduceSub → qe, reduceLeDiff → qf, reduceBEq → qg, reduceEqDiff → qh, reduceBeqDiff → qi, reduceLT → qj
open Int renaming reduceToNat → qk, reduceAdd → ql, reduceSub → qm, reduceNeg → qn, reduceLT → qo, reduceLE → qp, reduceEq → qq, reduceBEq → qr, reduceBNe → qs
open Go.Hw renaming runG_split → gR, condG_split → gC, takG_split → gT, effG_split → gE
theorem l13Settle_ok (c : Chain) (seq : Int) (back : Bool) (ok1 : c.ok = true) (hs : 1 ≤ seq ∧ seq ≤ c.state.sent.length) : Call Tryz.prog 141 [.g (chainA c 0), I seq, BB back] (chainH c 0) 8 (.o (.g (chainA (c.settle seq back) 8))) (chainH (c.settle seq back) 8) 16 := by
  obtain ⟨q1, q2, q3, q4, q5, q6⟩ := chain_ok ok1
  obtain ⟨r1, r2, r3, r4, r5, r6, r7, r8, r9⟩ := state_ok q3
  obtain ⟨s1, s2, s3, s4⟩ := sentOk_iff (r7 (seq - 1).toNat (by omega))
  obtain ⟨p1, p2, p3, p4, p5, p6, p7⟩ := packet_ok s1
  have p2' : In (c.sentAt seq).kind 1 2 = true := by rw [In_iff]; exact p2
  have p3' : In (c.sentAt seq).src 1 3 = true := by rw [In_iff]; exact p3
  have p5a : 0 ≤ (c.sentAt seq).sum := by unfold Chain.sentAt; omega
  have p5b : (c.sentAt seq).sum ≤ 1000 := by unfold Chain.sentAt; omega
  cases back
  · refine CallX.of tok Tryz.func141 rfl rfl Tryz.ntmps141 Tryz.results141 rfl (by decide) (fun cx hnt hk0 => ?_)
    repeat' (first | refine AWp.seq fun K hK => ?_ | refine hK _ ?_; clear hK K | refine hX ?_; clear hX hY X Y | refine hY ?_; clear hX hY X Y | refine AWp.block ?_ | refine hL _ _ ?_ | ((first | refine AWp.region tok (by rw [hnt]; rfl) ?_ | refine AWp.cond' fun X Y hX hY => ?_ | refine AWp.skip ?_ | refine AWp.exit ?_ | refine AWp.ret ?_ | refine Fin.auto [] ?_ | ((first | apply gR | apply gC) <;> intro hq <;> (try simp only [nT, nF, n1, n0] at hq) <;> (have hb := hq) <;> (try simp only [dT, dF, eT, eF] at hb) <;> first | (exfalso; omega) | ((try simp only [hq]); clear hq))) <;> (try simp only [go_sem, qa, qb, qc, qd, qe, qf, qg, qh, qi, qj, qk, ql, qm, qn, qo, qp, qq, qr, qs, reduceIte, reduceCtorEq, Chain.settle, Bool.false_eq_true])) | refine Fits.of ?_ ?_ | (refine aL ?_ (fun hp => ?_) <;> ((try simp only [rowSet_fI hp, rowSet_fI2 hp]); (try simp only [rowSet_fB hp]))) | refine aE ?_ fun hp => ?_ | refine aC ?_ fun hp => ?_ | refine And.intro ?_ ?_ | clear hK K | clear hX hY X Y | clear hL L)
    all_goals first | omega | trace_state
  · refine CallX.of tok Tryz.func141 rfl rfl Tryz.ntmps141 Tryz.results141 rfl (by decide) (fun cx hnt hk0 => ?_)
    repeat' (first | refine AWp.seq fun K hK => ?_ | refine hK _ ?_; clear hK K | refine hX ?_; clear hX hY X Y | refine hY ?_; clear hX hY X Y | refine AWp.block ?_ | refine hL _ _ ?_ | ((first | refine AWp.region tok (by rw [hnt]; rfl) ?_ | refine AWp.cond' fun X Y hX hY => ?_ | refine AWp.skip ?_ | refine AWp.exit ?_ | refine AWp.ret ?_ | refine Fin.auto [] ?_ | refine runS_c [_, _] (l1Back_ok c.bank (c.sentAt seq).kind (c.sentAt seq).src (c.sentAt seq).sum q2 p3' p2' p5a p5b) rfl ?_ ?_ ?_ | ((first | apply gR | apply gC) <;> intro hq <;> (try simp only [nT, nF, n1, n0] at hq) <;> (have hb := hq) <;> (try simp only [dT, dF, eT, eF] at hb) <;> first | (exfalso; omega) | ((try simp only [hq]); clear hq))) <;> (try simp only [go_sem, qa, qb, qc, qd, qe, qf, qg, qh, qi, qj, qk, ql, qm, qn, qo, qp, qq, qr, qs, reduceIte, reduceCtorEq, Chain.settle, Bank.refund, Chain.sentAt])) | refine Fits.of ?_ ?_ | (refine aL ?_ (fun hp => ?_) <;> ((try simp only [rowSet_fI hp, rowSet_fI2 hp]); (try simp only [rowSet_fB hp]))) | refine aE ?_ fun hp => ?_ | refine aC ?_ fun hp => ?_ | refine And.intro ?_ ?_ | clear hK K | clear hX hY X Y | clear hL L)
    all_goals first | omega | trace_state
end Go.Hw
