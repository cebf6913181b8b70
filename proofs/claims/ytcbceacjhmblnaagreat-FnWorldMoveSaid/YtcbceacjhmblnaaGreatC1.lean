/- What is proved here: parts W23, W25, W26, W29, W33 of the walk of the law and of its plain side; no condition but those that each theorem states. -/
import Derived.Test.YtcbceacjhmblnaaGreatB4
import Derived.Test.YtcbceacjhmblnaaGreatB2
import Derived.Test.YtcbceacjhmblnaaGreatB1
import Derived.Test.YtcbceacjhmblnaaGreatB3
/- What is proved: which steps may be done, in the reference. -/
set_option linter.all false
set_option maxRecDepth 100000
set_option maxHeartbeats 4000000
namespace Go.Hw
open Go.Proofs
open Nat renaming reduceDiv → qa, reduceMod → qb, reduceAdd → qc, reduceMul → qd, reduceSub → qe, reduceLeDiff → qf, reduceBEq → qg, reduceEqDiff → qh, reduceBeqDiff → qi, reduceLT → qj
open Int renaming reduceToNat → qk, reduceAdd → ql, reduceSub → qm, reduceNeg → qn, reduceLT → qo, reduceLE → qp, reduceEq → qq, reduceBEq → qr, reduceBNe → qs
open Go.Hw renaming runG_split → gR, condG_split → gC, takG_split → gT, effG_split → gE
def mayB (s o : State) (n : Int) : Bool := s.ok && (o.ok && wayMay s o n)
theorem WayMay_ok (s o : State) (n : Int) (h1 : (s.sent.length : Int) < 1099511627776) (h2 : (s.got.length : Int) < 1099511627776) (h3 : (o.sent.length : Int) < 1099511627776) (h4 : (o.got.length : Int) < 1099511627776) : Call Tryz.prog 110 [s.av, o.av, I n] [] 0 (.o (BB (mayB s o n))) [] 0 := by
  cases es : s.ok
  · refine CallX.of tok Tryz.func110 rfl rfl Tryz.ntmps110 Tryz.results110 rfl (by decide) (fun cx hnt hk0 => ?_)
    repeat' (first | refine AWp.seq fun K hK => ?_ | refine hK _ ?_; clear hK K | refine hX ?_; clear hX hY X Y | refine hY ?_; clear hX hY X Y | refine AWp.block ?_ | refine hL _ _ ?_ | ((first | refine AWp.region tok (by rw [hnt]; rfl) ?_ | refine AWp.cond' fun X Y hX hY => ?_ | refine AWp.skip ?_ | refine AWp.exit ?_ | refine AWp.ret ?_ | refine Fin.auto [] ?_ | refine runS_c [] (StateOk_ok s h1 h2) rfl ?_ ?_ ?_ | ((first | apply gR | apply gC) <;> intro hq <;> (try simp only [nT, nF, n1, n0] at hq) <;> (have hb := hq) <;> (try simp only [dT, dF, eT, eF] at hb) <;> first | (exfalso; omega) | ((try simp only [hq]); clear hq))) <;> (try simp only [go_sem, qa, qb, qc, qd, qe, qf, qg, qh, qi, qj, qk, ql, qm, qn, qo, qp, qq, qr, qs, reduceIte, reduceCtorEq, es, mayB])) | refine Fits.of ?_ ?_ | (refine aL ?_ (fun hp => ?_) <;> ((try simp only [rowSet_fI hp, rowSet_fI2 hp]); (try simp only [rowSet_fB hp]))) | refine aE ?_ fun hp => ?_ | refine aC ?_ fun hp => ?_ | refine And.intro ?_ ?_ | clear hK K | clear hX hY X Y | clear hL L)
  cases eo : o.ok
  · refine CallX.of tok Tryz.func110 rfl rfl Tryz.ntmps110 Tryz.results110 rfl (by decide) (fun cx hnt hk0 => ?_)
    repeat' (first | refine AWp.seq fun K hK => ?_ | refine hK _ ?_; clear hK K | refine hX ?_; clear hX hY X Y | refine hY ?_; clear hX hY X Y | refine AWp.block ?_ | refine hL _ _ ?_ | ((first | refine AWp.region tok (by rw [hnt]; rfl) ?_ | refine AWp.cond' fun X Y hX hY => ?_ | refine AWp.skip ?_ | refine AWp.exit ?_ | refine AWp.ret ?_ | refine Fin.auto [] ?_ | refine runS_c [] (StateOk_ok s h1 h2) rfl ?_ ?_ ?_ | refine runS_c [] (StateOk_ok o h3 h4) rfl ?_ ?_ ?_ | ((first | apply gR | apply gC) <;> intro hq <;> (try simp only [nT, nF, n1, n0] at hq) <;> (have hb := hq) <;> (try simp only [dT, dF, eT, eF] at hb) <;> first | (exfalso; omega) | ((try simp only [hq]); clear hq))) <;> (try simp only [go_sem, qa, qb, qc, qd, qe, qf, qg, qh, qi, qj, qk, ql, qm, qn, qo, qp, qq, qr, qs, reduceIte, reduceCtorEq, es, eo, mayB])) | refine Fits.of ?_ ?_ | (refine aL ?_ (fun hp => ?_) <;> ((try simp only [rowSet_fI hp, rowSet_fI2 hp]); (try simp only [rowSet_fB hp]))) | refine aE ?_ fun hp => ?_ | refine aC ?_ fun hp => ?_ | refine And.intro ?_ ?_ | clear hK K | clear hX hY X Y | clear hL L)
  · obtain ⟨r1, r2, r3, r4, r5, r6, r7, r8, r9⟩ := state_ok es
    obtain ⟨t1, t2, t3, t4, t5, t6, t7, t8, t9⟩ := state_ok eo
    refine CallX.of tok Tryz.func110 rfl rfl Tryz.ntmps110 Tryz.results110 rfl (by decide) (fun cx hnt hk0 => ?_)
    repeat' (first | refine AWp.seq fun K hK => ?_ | refine hK _ ?_; clear hK K | refine hX ?_; clear hX hY X Y | refine hY ?_; clear hX hY X Y | refine AWp.block ?_ | refine hL _ _ ?_ | ((first | refine AWp.region tok (by rw [hnt]; rfl) ?_ | refine AWp.cond' fun X Y hX hY => ?_ | refine AWp.skip ?_ | refine AWp.exit ?_ | refine AWp.ret ?_ | refine Fin.auto [] ?_ | refine runS_c [] (StateOk_ok s h1 h2) rfl ?_ ?_ ?_ | refine runS_c [] (StateOk_ok o h3 h4) rfl ?_ ?_ ?_ | refine runS_c [] (l11May_ok s o n (by omega) (by omega) (by omega) (by omega)) rfl ?_ ?_ ?_ | ((first | apply gR | apply gC) <;> intro hq <;> (try simp only [nT, nF, n1, n0] at hq) <;> (have hb := hq) <;> (try simp only [dT, dF, eT, eF] at hb) <;> first | (exfalso; omega) | ((try simp only [hq]); clear hq))) <;> (try simp only [go_sem, qa, qb, qc, qd, qe, qf, qg, qh, qi, qj, qk, ql, qm, qn, qo, qp, qq, qr, qs, reduceIte, reduceCtorEq, es, eo, mayB])) | refine Fits.of ?_ ?_ | (refine aL ?_ (fun hp => ?_) <;> ((try simp only [rowSet_fI hp, rowSet_fI2 hp]); (try simp only [rowSet_fB hp]))) | refine aE ?_ fun hp => ?_ | refine aC ?_ fun hp => ?_ | refine And.intro ?_ ?_ | clear hK K | clear hX hY X Y | clear hL L)
def nextUpTo (s o : State) (n : Nat) : List Int := ((List.range n).map fun i : Nat => (i : Int) + 1).filter (mayB s o)
theorem next_succ (s o : State) (n : Nat) : nextUpTo s o (n + 1) = nextUpTo s o n ++ (if mayB s o (n + 1) = true then [(n : Int) + 1] else []) := by
  unfold nextUpTo
  rw [List.range_succ, List.map_append, List.filter_append]
  cases h : mayB s o (n + 1) <;> simp [h]
theorem next_len (s o : State) (n : Nat) : (nextUpTo s o n).length ≤ n := by
  unfold nextUpTo
  refine Nat.le_trans (List.length_filter_le _ _) ?_
  simp
theorem WayNext_ok (s o : State) (h1 : (s.sent.length : Int) < 1099511627776) (h2 : (s.got.length : Int) < 1099511627776) (h3 : (o.sent.length : Int) < 1099511627776) (h4 : (o.got.length : Int) < 1099511627776) : Call Tryz.prog 79 [s.av, o.av] [] 0 (.o (.c (.sl 0 1 0 (nextUpTo s o 7).length))) [(0, rI (nextUpTo s o 7))] 1 := by
  refine CallX.of tok Tryz.func79 rfl rfl Tryz.ntmps79 Tryz.results79 rfl (by decide) (fun cx hnt hk0 => ?_)
  repeat' (first | refine AWp.seq fun K hK => ?_ | refine hK _ ?_; clear hK K | refine hX ?_; clear hX hY X Y | refine hY ?_; clear hX hY X Y | refine AWp.block ?_ | refine hL _ _ ?_ | ((first | refine AWp.region tok (by rw [hnt]; rfl) ?_ | refine AWp.cond' fun X Y hX hY => ?_ | refine AWp.skip ?_ | refine AWp.exit ?_ | refine AWp.ret ?_ | refine Fin.auto [] ?_ | ((first | apply gR | apply gC) <;> intro hq <;> (try simp only [nT, nF, n1, n0] at hq) <;> (have hb := hq) <;> (try simp only [dT, dF, eT, eF] at hb) <;> first | (exfalso; omega) | ((try simp only [hq]); clear hq))) <;> (try simp only [go_sem, qa, qb, qc, qd, qe, qf, qg, qh, qi, qj, qk, ql, qm, qn, qo, qp, qq, qr, qs, reduceIte, reduceCtorEq])) | refine Fits.of ?_ ?_ | (refine aL ?_ (fun hp => ?_) <;> ((try simp only [rowSet_fI hp, rowSet_fI2 hp]); (try simp only [rowSet_fB hp]))) | refine aE ?_ fun hp => ?_ | refine aC ?_ fun hp => ?_ | refine And.intro ?_ ?_ | clear hK K | clear hX hY X Y | clear hL L)
  refine AWp.loop (fun i : Nat => ⟨[(2, .o (.c (.ptr 0 0 0 0))), (3, .o (.c (.ptr 1 0 0 0))), (5, .o (.c (.sl 2 1 0 (nextUpTo s o i).length))), (6, .o (I ((i : Int) + 1)))], [(2, rI (nextUpTo s o i)), (0, s.box), (1, o.box)], 3⟩) (fun i => i ≤ 7) (fun i => 7 - i) 0 (Nat.zero_le _) ?_ ?_
  · refine SLe.auto hk0 [] ?_; simp only [go_sem, qa, qb, qc, qd, qe, qf, qg, qh, qi, qj, qk, ql, qm, qn, qo, qp, qq, qr, qs, reduceIte, reduceCtorEq, nextUpTo, List.range_zero, List.map_nil, List.filter_nil]
    all_goals simp
  intro i hi
  have hl := next_len s o i
  repeat' (first | refine AWp.seq fun K hK => ?_ | refine hK _ ?_; clear hK K | refine hX ?_; clear hX hY X Y | refine hY ?_; clear hX hY X Y | refine AWp.block ?_ | refine hL _ _ ?_ | ((first | refine AWp.region tok (by rw [hnt]; rfl) ?_ | refine AWp.cond' fun X Y hX hY => ?_ | refine AWp.skip ?_ | refine AWp.exit ?_ | refine AWp.ret ?_ | refine Fin.auto [] ?_ | refine runS_c [] (WayMay_ok s o ((i : Int) + 1) h1 h2 h3 h4) rfl ?_ ?_ ?_ | refine SLe.auto hk0 [] ?_ | ((first | apply gR | apply gC) <;> intro hq <;> (try simp only [nT, nF, n1, n0] at hq) <;> (have hb := hq) <;> (try simp only [dT, dF, eT, eF] at hb) <;> first | (exfalso; omega) | ((try simp only [hq]); clear hq))) <;> (try simp only [go_sem, qa, qb, qc, qd, qe, qf, qg, qh, qi, qj, qk, ql, qm, qn, qo, qp, qq, qr, qs, reduceIte, reduceCtorEq])) | refine ⟨i + 1, ?_, ?_, ?_⟩ | refine Fits.of ?_ ?_ | (refine aL ?_ (fun hp => ?_) <;> ((try simp only [rowSet_fI hp, rowSet_fI2 hp]); (try simp only [rowSet_fB hp]))) | refine aE ?_ fun hp => ?_ | refine aC ?_ fun hp => ?_ | refine And.intro ?_ ?_ | clear hK K | clear hX hY X Y | clear hL L)
  all_goals try (first | omega | (simp only [decide_eq_true_eq, decide_eq_false_iff_not, decide_eq_decide]; omega))
  all_goals try (rw [next_succ, if_pos (by assumption)]; simp [rle_fI]; done)
  all_goals try (rw [next_succ, if_neg (by simp [*])]; simp [rle_fI]; done)
  all_goals (have ei : i = 7 := by omega)
  all_goals (subst ei; simp [rle_fI])
end Go.Hw
/- What is proved: numbers drawn out of a code. -/
set_option linter.all false
set_option maxRecDepth 100000
set_option maxHeartbeats 4000000
namespace Go.Hw
open Go.Proofs
open Nat renaming reduceDiv → qa, reduceMod → qb, reduceAdd → qc, reduceMul → qd, reduceSub → qe, reduceLeDiff → qf, reduceBEq → qg, reduceEqDiff → qh, reduceBeqDiff → qi, reduceLT → qj
open Int renaming reduceToNat → qk, reduceAdd → ql, reduceSub → qm, reduceNeg → qn, reduceLT → qo, reduceLE → qp, reduceEq → qq, reduceBEq → qr, reduceBNe → qs
open Go.Hw renaming runG_split → gR, condG_split → gC, takG_split → gT, effG_split → gE
/-- Bytes as a tree. -/
def tU (l : List Int) (i j : Nat) : TV := if j = 0 then .v (.int .u8 (l.getD i 0)) else nixT
abbrev bytesT (l : List Int) : TV := .sl 1 l.length (tU l)
@[go_sem] theorem tU_zero (l : List Int) (i : Nat) : tU l i 0 = .v (.int .u8 (l.getD i 0)) := rfl
/-- A reader of a code: at the place p. -/
def rdH (l : List Int) (p : Int) (h : Nat) : Heap := [(h, .box [.t (bytesT l), .t (.v (.int .i64 p))])]
attribute [go_sem] rdH
def Bytes (l : List Int) : Prop := l.length ≤ 2000 ∧ ∀ i, 0 ≤ l.getD i 0 ∧ l.getD i 0 ≤ 255
theorem xor_nonneg {a b : Int} (h1 : 0 ≤ a) (h2 : a < 4611686018427387904) (h3 : 0 ≤ b) (h4 : b < 4611686018427387904) : 0 ≤ xorI a b := by
  unfold xorI
  have e1 : (BitVec.ofInt 64 a).toNat < 2 ^ 62 := by
    rw [BitVec.toNat_ofInt]
    omega
  have e2 : (BitVec.ofInt 64 b).toNat < 2 ^ 62 := by
    rw [BitVec.toNat_ofInt]
    omega
  have e3 : (BitVec.ofInt 64 a ^^^ BitVec.ofInt 64 b).toNat < 2 ^ 62 := by
    rw [BitVec.toNat_xor]
    exact Nat.xor_lt_two_pow e1 e2
  generalize (BitVec.ofInt 64 a ^^^ BitVec.ofInt 64 b).toNat = q at e3
  rw [wrap_fits (k := .i64) ⟨by show (-9223372036854775808 : Int) ≤ _; omega, by show _ ≤ (9223372036854775807 : Int); omega⟩]
  omega
theorem l6Open_ok (l : List Int) (h : l.length ≤ 2000) : Call Tryz.prog 34 [.c (.t (bytesT l))] [] 0 (.o (.c (.ptr 0 0 0 0))) (rdH l 0 0) 1 := by
  refine CallX.of tok Tryz.func34 rfl rfl Tryz.ntmps34 Tryz.results34 rfl (by decide) (fun cx hnt hk0 => ?_)
  repeat' (first | refine AWp.seq fun K hK => ?_ | refine hK _ ?_; clear hK K | refine hX ?_; clear hX hY X Y | refine hY ?_; clear hX hY X Y | refine AWp.block ?_ | refine hL _ _ ?_ | ((first | refine AWp.region tok (by rw [hnt]; rfl) ?_ | refine AWp.cond' fun X Y hX hY => ?_ | refine AWp.skip ?_ | refine AWp.exit ?_ | refine AWp.ret ?_ | refine Fin.auto [] ?_ | ((first | apply gR | apply gC) <;> intro hq <;> (try simp only [nT, nF, n1, n0] at hq) <;> (have hb := hq) <;> (try simp only [dT, dF, eT, eF] at hb) <;> first | (exfalso; omega) | ((try simp only [hq]); clear hq))) <;> (try simp only [go_sem, qa, qb, qc, qd, qe, qf, qg, qh, qi, qj, qk, ql, qm, qn, qo, qp, qq, qr, qs, reduceIte, reduceCtorEq])) | refine Fits.of ?_ ?_ | (refine aL ?_ (fun hp => ?_) <;> ((try simp only [rowSet_fI hp, rowSet_fI2 hp]); (try simp only [rowSet_fB hp]))) | refine aE ?_ fun hp => ?_ | refine aC ?_ fun hp => ?_ | refine And.intro ?_ ?_ | clear hK K | clear hX hY X Y | clear hL L)
  all_goals first | omega | trace_state
theorem pick_ok (l : List Int) (p n : Int) (hl : Bytes l) (h0 : 0 ≤ p) (h9 : p ≤ 1000000) (hn : n ≤ 1000000) : CallX (α := Int) Tryz.prog 36 [.c (.ptr 0 0 0 0), I n] (rdH l p 0) 1 (fun x => 0 ≤ x ∧ (x < n ∨ x = 0)) (fun x => .o (I x)) (fun _ => rdH l (p + 1) 0) 1 := by
  obtain ⟨hl1, hl2⟩ := hl
  have u1 := hl2 p.toNat
  have u2 := hl2 (p % l.length).toNat
  have u3 := hl2 ((p * 7 + 3) % l.length).toNat
  have m1 : ¬ (l.length : Int) = 0 → 0 ≤ p % l.length ∧ p % l.length < l.length := fun h => ⟨Int.emod_nonneg _ h, Int.emod_lt_of_pos _ (by omega)⟩
  have m2 : ¬ (l.length : Int) = 0 → 0 ≤ (p * 7 + 3) % l.length ∧ (p * 7 + 3) % l.length < l.length := fun h => ⟨Int.emod_nonneg _ h, Int.emod_lt_of_pos _ (by omega)⟩
  have m3 : 0 ≤ p / l.length ∧ p / l.length ≤ p := ⟨Int.ediv_nonneg h0 (by omega), Int.ediv_le_self _ h0⟩
  have m4 : ∀ x : Int, ¬ n < 1 → 0 ≤ x % n ∧ (x % n < n ∨ x % n = 0) := fun x h => ⟨Int.emod_nonneg _ (by omega), .inl (Int.emod_lt_of_pos _ (by omega))⟩
  generalize ed : l.getD p.toNat 0 = d1 at u1
  generalize ee : l.getD (p % l.length).toNat 0 = d2 at u2
  generalize ef : l.getD ((p * 7 + 3) % l.length).toNat 0 = d3 at u3
  generalize eg : p % (l.length : Int) = r1 at m1 ee
  generalize eh : (p * 7 + 3) % (l.length : Int) = r2 at m2 ef
  generalize ei : p / (l.length : Int) = r3 at m3
  refine CallX.of tok Tryz.func36 rfl rfl Tryz.ntmps36 Tryz.results36 rfl (by decide) (fun cx hnt hk0 => ?_)
  
  repeat' (first | refine AWp.seq fun K hK => ?_ | refine hK _ ?_; clear hK K | refine hX ?_; clear hX hY X Y | refine hY ?_; clear hX hY X Y | refine AWp.block ?_ | refine hL _ _ ?_ | ((first | refine AWp.region tok (by rw [hnt]; rfl) ?_ | refine AWp.cond' fun X Y hX hY => ?_ | refine AWp.skip ?_ | refine AWp.exit ?_ | refine AWp.ret ?_ | refine Fin.auto [] ?_ | refine AWp.draw (id := 7) tok mixed (.tak 0 (.tak 1 (.tak 2 (.tak 3 (.tak 4 (.tak 5 (.tak 6 (.tak 7 (.tak 8 (.tak 9 (.tak 10 (.tak 11 (.tak 12 (.tak 13 (.tak 14 (.tak 15 (.tak 16 (.tak 17 (.tak 18 (.tak 19 (.tak 20 (.tak 21 (.tak 22 (.tak 23 (.tak 24 (.tak 25 (.tak 26 (.tak 27 (.tak 28 (.tak 29 (.tak 30 (.tak 31 (.tak 32 (.tak 33 (.tak 34 (.tak 35 (.tak 36 (.tak 37 (.tak 38 (.tak 39 (.tak 40 (.tak 41 (.tak 42 (.tak 43 (.tak 44 (.tak 45 .done)))))))))))))))))))))))))))))))))))))))))))))) [0] [0, 5] (by kernel_rfl) (by kernel_rfl) (by rw [hnt]; rfl) ?_ | ((first | apply gR | apply gC | apply gT | apply gE) <;> intro hq <;> (try simp only [nT, nF, n1, n0] at hq) <;> (have hb := hq) <;> (try simp only [dT, dF, eT, eF] at hb) <;> first | (exfalso; omega) | ((try simp only [hq]); clear hq))) <;> (try simp only [go_sem, qa, qb, qc, qd, qe, qf, qg, qh, qi, qj, qk, ql, qm, qn, qo, qp, qq, qr, qs, reduceIte, reduceCtorEq, Int.add_sub_cancel, ed, ee, ef, eg, eh, ei])) | refine Fits.of ?_ ?_ | (refine aL ?_ (fun hp => ?_) <;> ((try simp only [rowSet_fI hp, rowSet_fI2 hp]); (try simp only [rowSet_fB hp]))) | refine aE ?_ fun hp => ?_ | refine aC ?_ fun hp => ?_ | refine And.intro ?_ ?_ | clear hK K | clear hX hY X Y | clear hL L)
  all_goals try omega
  all_goals try (refine xor_nonneg ?_ ?_ ?_ ?_ <;> omega)
  all_goals ((apply Exists.intro; apply And.intro; rotate_left; focus (refine Fin.auto [] ?_; simp only [go_sem, qa, qb, qc, qd, qe, qf, qg, qh, qi, qj, qk, ql, qm, qn, qo, qp, qq, qr, qs, reduceIte, reduceCtorEq]; first | rfl | refine ⟨?_, ?_⟩ <;> rfl | (repeat' (apply And.intro)) <;> first | rfl | trivial); try dsimp only))
  all_goals first | omega | exact m4 _ (by omega)
end Go.Hw
/- What is proved: ways that meet again in a body; a number drawn in the midst of one. -/
set_option linter.all false
set_option maxRecDepth 100000
set_option maxHeartbeats 4000000
namespace Go.Hw
open Go.Proofs
section
variable {P : Program} {ti : Nat → Option TI} {c : Ctx} {Q : Exit → St → Prop} {s : St}
/-- WAYS THAT MEET: behind x the state is one of a family. -/
theorem AWp.join {α : Type} (J : α → St) (p : α → Prop) {x y : Code} (hx : AWp P c x (thenQ (fun s' => ∃ a, p a ∧ SLe c s' (J a)) Q) s) (hy : ∀ a, p a → AWp P c y Q (J a)) : AWp P c (.seq x y) Q s := by
  refine AWp.seq fun K hK => AWp.mono hx fun e s' h => ?_
  cases e with
  | normal => obtain ⟨a, ha, hs⟩ := h; exact hK s' (AWp.le hs (hy a ha))
  | _ => exact h
end
theorem hsub_one {N h : Nat} {H : Heap} {l : List Cell} (hl : look h H = some (.box l)) (hf : All2 (cle [] (fun _ => False) [] N) l l) : hsub N H [(h, .box l)] := by
  simp only [hsub, hl]
  exact ⟨hf, trivial⟩
theorem rd_self {N : Nat} {l : List Int} {p : Int} : All2 (cle [] (fun _ => False) [] N) [.t (bytesT l), .t (.v (.int .i64 p))] [.t (bytesT l), .t (.v (.int .i64 p))] := by
  simp [All2, cle_t, tof_t, tle_refl]
section
variable {ops : List Oper} {rest : List Oper} {s : St} {K : St → Prop} {dst : Option Nat} {hr : Heap} {n0 : Nat} {r : Plan} {to : List (Nat × AV)}
theorem ACall.pick (l : List Int) (hl : Bytes l) {p n : Int} {h : Nat} {K : AV → Heap → Nat → Prop} (hlook : look h s.h = some (.box [.t (bytesT l), .t (.v (.int .i64 p))])) (h0 : 0 ≤ p ∧ p ≤ 1000000) (hn : n ≤ 1000000) (hh : h < s.nx)
    (hK : ∀ x, 0 ≤ x ∧ (x < n ∨ x = 0) → K (.o (I x)) ((h, .box [.t (bytesT l), .t (.v (.int .i64 (p + 1)))]) :: rem h s.h) s.nx) : ACall Tryz.prog 36 [.c (.ptr h 0 0 0), I n] s K := by
  have e1 : rnF [h] s.nx 0 = h := rfl
  have e2 : ∀ q : Int, hren (rnF [h] s.nx) (rdH l q 0) = [(h, .box [.t (bytesT l), .t (.v (.int .i64 q))])] := fun q => rfl
  refine ACall.at [h] (pick_ok l p n hl h0.1 h0.2 hn) rfl ⟨hh, trivial⟩ ?_ ?_
  · rw [e2]; exact hsub_one hlook rd_self
  · intro x hx
    rw [e2, e2]
    exact hK x hx
theorem runS_pick (l : List Int) (hl : Bytes l) {p n : Int} {h : Nat} (hlook : look h s.h = some (.box [.t (bytesT l), .t (.v (.int .i64 p))])) (h0 : 0 ≤ p ∧ p ≤ 1000000) (hn : n ≤ 1000000) (hh : h < s.nx)
    (hK : ∀ x, 0 ≤ x ∧ (x < n ∨ x = 0) → runR Tryz.prog ti ops rest ({ s with h := (h, .box [.t (bytesT l), .t (.v (.int .i64 (p + 1)))]) :: rem h s.h }.put dst (.o (I x))) K) : runS Tryz.prog ti ops dst rest s K (.call 36 [.c (.ptr h 0 0 0), I n]) :=
  runS_call (ACall.pick l hl hlook h0 hn hh hK)
theorem effS_pick (l : List Int) (hl : Bytes l) {p n : Int} {h : Nat} (hlook : look h s.h = some (.box [.t (bytesT l), .t (.v (.int .i64 p))])) (h0 : 0 ≤ p ∧ p ≤ 1000000) (hn : n ≤ 1000000) (hh : h < s.nx)
    (hK : ∀ x, 0 ≤ x ∧ (x < n ∨ x = 0) → runP Tryz.prog ti ops hr n0 r to ({ s with h := (h, .box [.t (bytesT l), .t (.v (.int .i64 (p + 1)))]) :: rem h s.h }.put dst (.o (I x))) K) : effS Tryz.prog ti ops hr n0 dst r to s K (.call 36 [.c (.ptr h 0 0 0), I n]) :=
  effS_call (ACall.pick l hl hlook h0 hn hh hK)
end
end Go.Hw
/- What is proved: what can be carried to a chain, in the reference. -/
set_option linter.all false
set_option maxRecDepth 100000
set_option maxHeartbeats 8000000
namespace Go.Hw
open Go.Proofs
open Nat renaming reduceDiv → qa, reduceMod → qb, reduceAdd → qc, reduceMul → qd, reduceSub → qe, reduceLeDiff → qf, reduceBEq → qg, reduceEqDiff → qh, reduceBeqDiff → qi, reduceLT → qj
open Int renaming reduceToNat → qk, reduceAdd → ql, reduceSub → qm, reduceNeg → qn, reduceLT → qo, reduceLE → qp, reduceEq → qq, reduceBEq → qr, reduceBNe → qs
open Go.Hw renaming runG_split → gR, condG_split → gC, takG_split → gT, effG_split → gE
def pl_gets_succ0 : Plan := (.tak 0 (.tak 2 (.tak 3 (.tak 4 (.tak 5 (.tak 6 (.tak 7 (.all (.cons 1 (.all (.cons 8 (.tak 9 (.tak 10 (.tak 11 (.all (.cons 12 (.all (.cons 13 (.tak 14 .done) .nil)) .nil))))) (.cons 12 (.all (.cons 8 (.tak 9 (.tak 10 (.tak 11 (.all (.cons 13 (.tak 14 .done) .nil))))) .nil)) .nil))) (.cons 12 (.all (.cons 1 (.all (.cons 8 (.tak 9 (.tak 10 (.tak 11 (.all (.cons 13 (.tak 14 .done) .nil))))) .nil)) .nil)) .nil))))))))))
attribute [go_sem] pl_gets_succ0
def pl_gets_succ1 : Plan := (.tak 0 (.tak 2 (.tak 3 (.all (.cons 1 (.all (.cons 4 (.tak 5 (.tak 6 (.tak 7 (.all (.cons 8 (.all (.cons 9 (.tak 10 .done) .nil)) .nil))))) (.cons 8 (.all (.cons 4 (.tak 5 (.tak 6 (.tak 7 (.all (.cons 9 (.tak 10 .done) .nil))))) .nil)) .nil))) (.cons 8 (.all (.cons 1 (.all (.cons 4 (.tak 5 (.tak 6 (.tak 7 (.all (.cons 9 (.tak 10 .done) .nil))))) .nil)) .nil)) .nil))))))
attribute [go_sem] pl_gets_succ1
def pl_gets_succ2 : Plan := (.tak 0 (.tak 2 (.tak 3 (.tak 4 (.all (.cons 1 (.all (.cons 5 (.tak 6 (.tak 7 (.tak 8 (.all (.cons 9 (.all (.cons 10 (.tak 11 .done) .nil)) .nil))))) (.cons 9 (.all (.cons 5 (.tak 6 (.tak 7 (.tak 8 (.all (.cons 10 (.tak 11 .done) .nil))))) .nil)) .nil))) (.cons 9 (.all (.cons 1 (.all (.cons 5 (.tak 6 (.tak 7 (.tak 8 (.all (.cons 10 (.tak 11 .done) .nil))))) .nil)) .nil)) .nil)))))))
attribute [go_sem] pl_gets_succ2
def getsOf (c : Chain) (s : State) (chain h : Int) (n : Nat) : List Event := ((s.sent.take n).filter fun p => c.getB s p).map fun p => ⟨4, chain, h, 0, p⟩
def restAt (c : Chain) (s : State) (chain h : Int) (i : Nat) : List Event := (if c.tellB s ((i : Int) + 1) then [⟨5, chain, h, (i : Int) + 1, ⟨0, 0, 0, 0, 0, 0, 0⟩⟩] else []) ++ (if c.lateB s h ((i : Int) + 1) then [⟨6, chain, h, (i : Int) + 1, ⟨0, 0, 0, 0, 0, 0, 0⟩⟩] else [])
def restOf (c : Chain) (s : State) (chain h : Int) (n : Nat) : List Event := (List.range n).flatMap (restAt c s chain h)
def planOf (c : Chain) (s : State) (chain h : Int) : List Event := getsOf c s chain h s.sent.length ++ restOf c s chain h c.state.sent.length
def lastK (c : Chain) : Int := c.knows.getD ((c.knows.length : Int) - 1).toNat 0
def planC (c o : Chain) (chain : Int) : List Event := if c.knows.length = 0 then [] else planOf c (o.past.getD (lastK c - 1).toNat default) chain (lastK c)
def planL (w : List Chain) (chain : Int) : List Event := if (wOk w && In chain 1 2) = true then (if chain = 1 then planC (w.getD 0 default) (w.getD 1 default) 1 else planC (w.getD 1 default) (w.getD 0 default) 2) else []
theorem gets_succ (c : Chain) (s : State) (chain h : Int) (i : Nat) (hi : i < s.sent.length) : getsOf c s chain h (i + 1) = getsOf c s chain h i ++ (if c.getB s (s.sent.getD i default) = true then [⟨4, chain, h, 0, s.sent.getD i default⟩] else []) := by
  unfold getsOf
  rw [List.take_succ, List.filter_append, List.map_append]
  simp only [List.getD, List.getElem?_eq_getElem hi, Option.getD_some, Option.toList_some]
  cases hp : c.getB s s.sent[i] <;> simp [hp]
theorem gets_len (c : Chain) (s : State) (chain h : Int) (i : Nat) : (getsOf c s chain h i).length ≤ i := by
  unfold getsOf
  rw [List.length_map]
  refine Nat.le_trans (List.length_filter_le _ _) ?_
  rw [List.length_take]; omega
theorem rest_succ (c : Chain) (s : State) (chain h : Int) (i : Nat) : restOf c s chain h (i + 1) = restOf c s chain h i ++ restAt c s chain h i := by
  unfold restOf
  rw [List.range_succ, List.flatMap_append]; simp
theorem rest_len (c : Chain) (s : State) (chain h : Int) : ∀ i : Nat, (restOf c s chain h i).length ≤ 2 * i
  | 0 => by simp [restOf]
  | i + 1 => by
    rw [rest_succ, List.length_append]
    have := rest_len c s chain h i
    have h2 : (restAt c s chain h i).length ≤ 2 := by
      unfold restAt
      rw [List.length_append]
      split <;> split <;> simp
    omega
theorem wOk_two {a b : Chain} (h : wOk [a, b] = true) : a.ok = true ∧ (0 < a.knows.length → lastK a ≤ b.past.length) ∧ b.ok = true ∧ (0 < b.knows.length → lastK b ≤ a.past.length) := by
  simp only [wOk, kOk, Bool.and_eq_true, Bool.not_eq_true', Bool.and_eq_false_iff, decide_eq_false_iff_not, List.getD_cons_zero, List.getD_cons_succ] at h
  obtain ⟨_, h1, _, h2, h3, _, h4⟩ := h
  refine ⟨h1, fun h0 => ?_, h3, fun h0 => ?_⟩ <;> unfold lastK <;> omega
theorem lastK_in {c : Chain} (h : ∀ i, i < c.knows.length → knowOk c.knows i = true) (h0 : ¬ c.knows.length = 0) : 1 ≤ lastK c ∧ lastK c ≤ 90 := by
  have := h ((c.knows.length : Int) - 1).toNat (by omega)
  simp only [knowOk, Bool.and_eq_true, In_iff] at this
  exact this.1
theorem ok_small {c : Chain} (h : c.ok = true) : c.small := by
  obtain ⟨q1, q2, q3, q4, q5, q6⟩ := chain_ok h
  have q7 := knows_len q6
  obtain ⟨b1, b2, b3, b4, b5⟩ := bank_ok q2
  have b6 := parts_len b1
  have b7 := parts_len b2
  have b8 := parts_all b1
  obtain ⟨r1, r2, r3, r4, r5, r6, r7, r8, r9⟩ := state_ok q3
  refine ⟨by omega, by omega, by omega, ⟨by omega, by omega⟩, by omega, fun i => ?_, by omega⟩
  by_cases hi : i < c.past.length
  · obtain ⟨r1, r2, r3, r4, r5, r6, r7, r8, r9⟩ := state_ok (q5 i hi)
    exact ⟨by omega, by omega⟩
  · have : c.past.getD i default = default := by simp [List.getD, List.getElem?_eq_none (Nat.le_of_not_lt hi)]
    rw [this]; exact ⟨by decide, by decide⟩
theorem def_small (j : Nat) : ((default : Chain).past.getD j default).small := by
  have h : (default : State).small := ⟨by decide, by decide⟩
  have e : (default : Chain).past.getD j default = default := by
    have : (default : Chain).past = [] := rfl
    rw [this]; simp [List.getD]
  rw [e]; exact h
theorem def_small2 : (default : Chain).small := ⟨by decide, by decide, by decide, ⟨by decide, by decide⟩, by decide, def_small, by decide⟩
theorem two_small {a b : Chain} (h1 : a.ok = true) (h2 : b.ok = true) : ∀ i, (([a, b] : List Chain).getD i default).small
  | 0 => ok_small h1
  | 1 => ok_small h2
  | i + 2 => def_small2
theorem SumPlan_no (w : List Chain) (chain : Int) (hs : ∀ i, (w.getD i default).small) (hw : (w.length : Int) < 1099511627776) (h : (wOk w && In chain 1 2) = false) : Call Tryz.prog 78 [.g [.t (chainsT w)], I chain] [] 0 (.o (.c (.sl 0 11 0 0))) [(0, rE [])] 1 := by
  cases ew : wOk w
  · refine CallX.of tok Tryz.func78 rfl rfl Tryz.ntmps78 Tryz.results78 rfl (by decide) (fun cx hnt hk0 => ?_)
    repeat' (first | refine AWp.seq fun K hK => ?_ | refine hK _ ?_; clear hK K | refine hX ?_; clear hX hY X Y | refine hY ?_; clear hX hY X Y | refine AWp.block ?_ | refine hL _ _ ?_ | ((first | refine AWp.region tok (by rw [hnt]; rfl) ?_ | refine AWp.cond' fun X Y hX hY => ?_ | refine AWp.skip ?_ | refine AWp.exit ?_ | refine AWp.ret ?_ | refine Fin.auto [] ?_ | refine runS_c [] (WorldOk_ok w hs hw) rfl ?_ ?_ ?_ | refine AWp.draw (id := 10) tok mixed pl_gets_succ0 [] [6, 8, 9] (by kernel_rfl) (by kernel_rfl) (by rw [hnt]; rfl) ?_ | refine AWp.draw (id := 16) tok mixed pl_gets_succ1 [] [6, 8, 12] (by kernel_rfl) (by kernel_rfl) (by rw [hnt]; rfl) ?_ | refine AWp.draw (id := 17) tok mixed pl_gets_succ2 [] [6, 7, 8, 12] (by kernel_rfl) (by kernel_rfl) (by rw [hnt]; rfl) ?_ | refine effS_c [] (WorldOk_ok w hs hw) rfl ?_ ?_ ?_ | ((first | apply gR | apply gC | apply gT | apply gE) <;> intro hq <;> (try simp only [nT, nF, n1, n0] at hq) <;> (have hb := hq) <;> (try simp only [dT, dF, eT, eF] at hb) <;> first | (exfalso; omega) | ((try simp only [hq]); clear hq))) <;> (try simp only [go_sem, qa, qb, qc, qd, qe, qf, qg, qh, qi, qj, qk, ql, qm, qn, qo, qp, qq, qr, qs, reduceIte, reduceCtorEq, ew])) | refine Fits.of ?_ ?_ | (refine aL ?_ (fun hp => ?_) <;> ((try simp only [rowSet_fI hp, rowSet_fI2 hp]); (try simp only [rowSet_fB hp]))) | refine aE ?_ fun hp => ?_ | refine aC ?_ fun hp => ?_ | refine And.intro ?_ ?_ | clear hK K | clear hX hY X Y | clear hL L)
  · have ec : In chain 1 2 = false := by simpa [ew] using h
    refine CallX.of tok Tryz.func78 rfl rfl Tryz.ntmps78 Tryz.results78 rfl (by decide) (fun cx hnt hk0 => ?_)
    repeat' (first | refine AWp.seq fun K hK => ?_ | refine hK _ ?_; clear hK K | refine hX ?_; clear hX hY X Y | refine hY ?_; clear hX hY X Y | refine AWp.block ?_ | refine hL _ _ ?_ | ((first | refine AWp.region tok (by rw [hnt]; rfl) ?_ | refine AWp.cond' fun X Y hX hY => ?_ | refine AWp.skip ?_ | refine AWp.exit ?_ | refine AWp.ret ?_ | refine Fin.auto [] ?_ | refine runS_c [] (WorldOk_ok w hs hw) rfl ?_ ?_ ?_ | refine runS_c [] (l6In_ok _ _ _) rfl ?_ ?_ ?_ | refine AWp.draw (id := 10) tok mixed pl_gets_succ0 [] [6, 8, 9] (by kernel_rfl) (by kernel_rfl) (by rw [hnt]; rfl) ?_ | refine AWp.draw (id := 16) tok mixed pl_gets_succ1 [] [6, 8, 12] (by kernel_rfl) (by kernel_rfl) (by rw [hnt]; rfl) ?_ | refine AWp.draw (id := 17) tok mixed pl_gets_succ2 [] [6, 7, 8, 12] (by kernel_rfl) (by kernel_rfl) (by rw [hnt]; rfl) ?_ | refine effS_c [] (WorldOk_ok w hs hw) rfl ?_ ?_ ?_ | refine effS_c [] (l6In_ok _ _ _) rfl ?_ ?_ ?_ | ((first | apply gR | apply gC | apply gT | apply gE) <;> intro hq <;> (try simp only [nT, nF, n1, n0] at hq) <;> (have hb := hq) <;> (try simp only [dT, dF, eT, eF] at hb) <;> first | (exfalso; omega) | ((try simp only [hq]); clear hq))) <;> (try simp only [go_sem, qa, qb, qc, qd, qe, qf, qg, qh, qi, qj, qk, ql, qm, qn, qo, qp, qq, qr, qs, reduceIte, reduceCtorEq, ew, ec])) | refine Fits.of ?_ ?_ | (refine aL ?_ (fun hp => ?_) <;> ((try simp only [rowSet_fI hp, rowSet_fI2 hp]); (try simp only [rowSet_fB hp]))) | refine aE ?_ fun hp => ?_ | refine aC ?_ fun hp => ?_ | refine And.intro ?_ ?_ | clear hK K | clear hX hY X Y | clear hL L)
end Go.Hw
/- What is proved: a reader of a code of any length. -/
set_option linter.all false
set_option maxRecDepth 100000
set_option maxHeartbeats 4000000
namespace Go.Hw
open Go.Proofs
open Nat renaming reduceDiv → qa, reduceMod → qb, reduceAdd → qc, reduceMul → qd, reduceSub → qe, reduceLeDiff → qf, reduceBEq → qg, reduceEqDiff → qh, reduceBeqDiff → qi, reduceLT → qj
open Int renaming reduceToNat → qk, reduceAdd → ql, reduceSub → qm, reduceNeg → qn, reduceLT → qo, reduceLE → qp, reduceEq → qq, reduceBEq → qr, reduceBNe → qs
open Go.Hw renaming runG_split → gR, condG_split → gC, takG_split → gT, effG_split → gE
theorem l6Open_long (l : List Int) (h : 2000 < l.length) (h2 : (l.length : Int) ≤ 1048576) : Call Tryz.prog 34 [.c (.t (bytesT l))] [] 0 (.o (.c (.ptr 0 0 0 0))) (rdH (l.take 2000) 0 0) 1 := by
  have e : (l.take 2000).length = 2000 := by rw [List.length_take]; omega
  refine CallX.of tok Tryz.func34 rfl rfl Tryz.ntmps34 Tryz.results34 rfl (by decide) (fun cx hnt hk0 => ?_)
  repeat' (first | refine AWp.seq fun K hK => ?_ | refine hK _ ?_; clear hK K | refine hX ?_; clear hX hY X Y | refine hY ?_; clear hX hY X Y | refine AWp.block ?_ | refine hL _ _ ?_ | ((first | refine AWp.region tok (by rw [hnt]; rfl) ?_ | refine AWp.cond' fun X Y hX hY => ?_ | refine AWp.skip ?_ | refine AWp.exit ?_ | refine AWp.ret ?_ | refine Fin.auto [] ?_ | ((first | apply gR | apply gC) <;> intro hq <;> (try simp only [nT, nF, n1, n0] at hq) <;> (have hb := hq) <;> (try simp only [dT, dF, eT, eF] at hb) <;> first | (exfalso; omega) | ((try simp only [hq]); clear hq))) <;> (try simp only [go_sem, qa, qb, qc, qd, qe, qf, qg, qh, qi, qj, qk, ql, qm, qn, qo, qp, qq, qr, qs, reduceIte, reduceCtorEq, e])) | refine Fits.of ?_ ?_ | (refine aL ?_ (fun hp => ?_) <;> ((try simp only [rowSet_fI hp, rowSet_fI2 hp]); (try simp only [rowSet_fB hp]))) | refine aE ?_ fun hp => ?_ | refine aC ?_ fun hp => ?_ | refine And.intro ?_ ?_ | clear hK K | clear hX hY X Y | clear hL L)
  all_goals try omega
  intro i hi j hj
  have e2 : (l.take 2000).getD i 0 = l.getD i 0 := by
    unfold List.getD; rw [List.getElem?_take, if_pos hi]
  unfold tU
  rw [e2]
  simp [tle_refl]
end Go.Hw
