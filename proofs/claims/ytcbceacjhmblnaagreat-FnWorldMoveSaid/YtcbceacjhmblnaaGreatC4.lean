/- What is proved here: parts W31, W30a, W30d, W30e of the walk of the law and of its plain side; no condition but those that each theorem states. -/
import Derived.Test.YtcbceacjhmblnaaGreatC1
import Derived.Test.YtcbceacjhmblnaaGreatB6
/- What is proved: pieces of the draw of an event: its states where ways meet, its code. -/
set_option linter.all false
set_option maxRecDepth 100000
set_option maxHeartbeats 16000000
namespace Go.Hw
open Go.Proofs
theorem knows_in {k : List Int} (h : ∀ i, i < k.length → knowOk k i = true) (i : Nat) : i < k.length → 1 ≤ k.getD i 0 ∧ k.getD i 0 ≤ 90 := fun hi => by
  have := h i hi
  simp only [knowOk, Bool.and_eq_true, In_iff] at this
  exact this.1
theorem plan_len (c o : Chain) (k : Int) (h1 : c.ok = true) (h2 : o.ok = true) : (planC c o k).length ≤ 1000 := by
  obtain ⟨q1, q2, q3, q4, q5, q6⟩ := chain_ok h1
  obtain ⟨u1, u2, u3, u4, u5, u6⟩ := chain_ok h2
  obtain ⟨r1, r2, r3, r4, r5, r6, r7, r8, r9⟩ := state_ok q3
  unfold planC
  split
  · simp
  unfold planOf
  rw [List.length_append]
  have a1 := gets_len c (o.past.getD (lastK c - 1).toNat default) k (lastK c) (o.past.getD (lastK c - 1).toNat default).sent.length
  have a2 := rest_len c (o.past.getD (lastK c - 1).toNat default) k (lastK c) c.state.sent.length
  have a3 : (o.past.getD (lastK c - 1).toNat default).sent.length ≤ 200 := by
    by_cases hi : (lastK c - 1).toNat < o.past.length
    · have := u5 _ hi
      obtain ⟨r1, r2, r3, r4, r5, r6, r7, r8, r9⟩ := state_ok this
      omega
    · have : o.past.getD (lastK c - 1).toNat default = default := by unfold List.getD; rw [List.getElem?_eq_none (Nat.le_of_not_lt hi)]; rfl
      rw [this]; decide
  omega
def ev0 : Event := ⟨0, 0, 0, 0, ⟨0, 0, 0, 0, 0, 0, 0⟩⟩
def jE1 (l : List Int) (w : Two) (c o : Chain) (hc ho : Nat) (ch : Int) (x : Int × Int) : St := ⟨[(0, .o (.c (.ptr 0 0 0 0))), (3, .o (.c (.ptr 18 0 0 0))), (4, .o (.c (.ptr 19 0 0 0))), (5, .o (I ch)), (6, .o (.c (.ptr 20 0 0 0))), (7, .o (.c (.ptr 21 0 0 0))), (8, .o (I x.1))], rdH l x.2 0 ++ (worldH w 1 ++ [(18, .box (worldA 1)), (19, (⟨0, 0, 0, 0, ⟨0, 0, 0, 0, 0, 0, 0⟩⟩ : Event).box), (20, .box (chainA c hc)), (21, .box (chainA o ho))]), 22⟩
def jE3 (l : List Int) (w : Two) (c o : Chain) (hc ho : Nat) (ch : Int) (t : Nat) (h r x : Int) (bb : Bool) : St := ⟨[(0, .o (.c (.ptr 0 0 0 0))), (3, .o (.c (.ptr 18 0 0 0))), (4, .o (.c (.ptr 19 0 0 0))), (5, .o (I ch)), (6, .o (.c (.ptr 20 0 0 0))), (7, .o (.c (.ptr 21 0 0 0))), (8, .o (I h)), (57, .o (I x)), (t, .o (BB bb))], rdH l r 0 ++ (worldH w 1 ++ [(18, .box (worldA 1)), (19, (⟨0, 0, 0, 0, ⟨0, 0, 0, 0, 0, 0, 0⟩⟩ : Event).box), (20, .box (chainA c hc)), (21, .box (chainA o ho))]), 22⟩
def jE2 (l : List Int) (w : Two) (c o : Chain) (hc ho : Nat) (ch : Int) (x : Int × Int × Int) : St := ⟨[(0, .o (.c (.ptr 0 0 0 0))), (4, .o (.c (.ptr 18 0 0 0))), (5, .o (I ch)), (6, .o (.c (.ptr 19 0 0 0))), (7, .o (.c (.ptr 20 0 0 0))), (8, .o (I x.1)), (12, .o (I x.2.2))], rdH l x.2.1 0 ++ (worldH w 1 ++ [(18, (⟨0, 0, 0, 0, ⟨0, 0, 0, 0, 0, 0, 0⟩⟩ : Event).box), (19, .box (chainA c hc)), (20, .box (chainA o ho))]), 21⟩
attribute [go_sem] jE1 jE2 jE3
def Code.pt : Code → List Bool → Code
  | .seq x _, false :: l => Code.pt x l
  | .seq _ y, true :: l => Code.pt y l
  | c, _ => c
noncomputable def evC : Code := match Tryz.f56.body with
  | some c => c
  | none => .skip
theorem AWp.code_eq {P : Program} {c : Ctx} {x y : Code} {Q : Exit → St → Prop} {s : St} (h : x = y) (hy : AWp P c y Q s) : AWp P c x Q s := by rw [h]; exact hy
end Go.Hw
/- What is proved: the draw of an event on chain 1: its steps of a way. -/
set_option linter.all false
set_option maxRecDepth 100000
set_option maxHeartbeats 16000000
namespace Go.Hw
open Go.Proofs
open Nat renaming reduceDiv → qa, reduceMod → qb, reduceAdd → qc, reduceMul → qd, reduceSub → qe, reduceLeDiff → qf, reduceBEq → qg, reduceEqDiff → qh, reduceBeqDiff → qi, reduceLT → qj
open Int renaming reduceToNat → qk, reduceAdd → ql, reduceSub → qm, reduceNeg → qn, reduceLT → qo, reduceLE → qp, reduceEq → qq, reduceBEq → qr, reduceBNe → qs
open Go.Hw renaming runG_split → gR, condG_split → gC, takG_split → gT, effG_split → gE
def pl_ev_rest_10 : Plan := (.tak 0 (.tak 1 (.tak 2 (.tak 3 (.tak 4 (.tak 5 (.all (.cons 6 (.tak 7 (.all (.cons 8 (.tak 9 .done) .nil))) .nil))))))))
attribute [go_sem] pl_ev_rest_10
def pl_ev_rest_11 : Plan := (.tak 0 (.tak 1 (.tak 2 (.tak 3 (.tak 4 (.all (.cons 5 (.tak 6 (.tak 7 (.all (.cons 8 (.all (.cons 9 (.all (.cons 10 .done .nil)) .nil)) .nil)))) .nil)))))))
attribute [go_sem] pl_ev_rest_11
def pl_ev_rest_12 : Plan := (.tak 0 (.tak 4 (.tak 7 (.tak 10 (.tak 13 (.tak 14 (.tak 15 (.tak 16 (.tak 17 (.all (.cons 1 (.tak 2 (.tak 3 (.all (.cons 5 (.tak 6 (.all (.cons 8 (.tak 9 (.all (.cons 11 (.tak 12 (.all (.cons 18 (.tak 19 (.all (.cons 20 (.all (.cons 21 (.all (.cons 22 .done .nil)) .nil)) (.cons 21 (.all (.cons 20 (.all (.cons 22 .done .nil)) .nil)) .nil)))) (.cons 21 (.all (.cons 18 (.tak 19 (.all (.cons 20 (.all (.cons 22 .done .nil)) .nil))) .nil)) .nil)))) (.cons 21 (.all (.cons 11 (.tak 12 (.all (.cons 18 (.tak 19 (.all (.cons 20 (.all (.cons 22 .done .nil)) .nil))) .nil))) .nil)) .nil)))) (.cons 21 (.all (.cons 8 (.tak 9 (.all (.cons 11 (.tak 12 (.all (.cons 18 (.tak 19 (.all (.cons 20 (.all (.cons 22 .done .nil)) .nil))) .nil))) .nil))) .nil)) .nil)))) (.cons 21 (.all (.cons 5 (.tak 6 (.all (.cons 8 (.tak 9 (.all (.cons 11 (.tak 12 (.all (.cons 18 (.tak 19 (.all (.cons 20 (.all (.cons 22 .done .nil)) .nil))) .nil))) .nil))) .nil))) .nil)) .nil))))) (.cons 21 (.all (.cons 1 (.tak 2 (.tak 3 (.all (.cons 5 (.tak 6 (.all (.cons 8 (.tak 9 (.all (.cons 11 (.tak 12 (.all (.cons 18 (.tak 19 (.all (.cons 20 (.all (.cons 22 .done .nil)) .nil))) .nil))) .nil))) .nil))) .nil)))) .nil)) .nil))))))))))))
attribute [go_sem] pl_ev_rest_12
def pl_ev_rest_13 : Plan := (.tak 0 (.tak 1 (.tak 2 (.tak 3 (.tak 4 (.tak 5 (.tak 6 (.tak 7 (.all (.cons 8 (.tak 9 (.all (.cons 10 (.all (.cons 11 (.all (.cons 12 .done .nil)) .nil)) (.cons 11 (.all (.cons 10 (.all (.cons 12 .done .nil)) .nil)) .nil)))) (.cons 11 (.all (.cons 8 (.tak 9 (.all (.cons 10 (.all (.cons 12 .done .nil)) .nil))) .nil)) .nil)))))))))))
attribute [go_sem] pl_ev_rest_13
def pl_ev_rest_14 : Plan := (.tak 0 (.tak 1 (.tak 2 (.tak 3 (.tak 4 (.tak 5 (.tak 6 (.tak 7 (.all (.cons 8 (.tak 9 .done) .nil))))))))))
attribute [go_sem] pl_ev_rest_14
theorem ev_rest_1 (l : List Int) (p : Int) (a b : Chain) (hl : Bytes l) (h0 : 0 ≤ p) (h9 : p ≤ 10000) (ok1 : wOk [a, b] = true) (cx : Ctx) (hnt : cx.nt = 234) (hk0 : cx.k0 = 18) (h r : Int) (g1 : 0 ≤ h) (g2 : h ≤ 90) (g3 : p ≤ r) (g4 : r ≤ p + 14) : AWp Tryz.prog cx (Code.pt evC [true, true, true, true, true, true, true]) (finQ ti [ResultVar.cell 4 48] 18 (fun x : Event × Int => p ≤ x.2 ∧ x.2 ≤ p + 40) (fun x => AV.o x.1.av) (fun x => rdH l x.2 0 ++ worldH ⟨a, b⟩ 1) 18) (jE1 l ⟨a, b⟩ a b 2 10 1 (h, r)) := by
  obtain ⟨w1, w2, w3, w4⟩ := wOk_two ok1
  obtain ⟨q1, q2, q3, q4, q5, q6⟩ := chain_ok w3
  obtain ⟨u1, u2, u3, u4, u5, u6⟩ := chain_ok w1
  have q7 := knows_len q6
  have u7 := knows_len u6
  obtain ⟨r1, r2, r3, r4, r5, r6, r7, r8, r9⟩ := state_ok q3
  obtain ⟨t1, t2, t3, t4, t5, t6, t7, t8, t9⟩ := state_ok u3
  refine AWp.code_eq (y := .seq _ _) rfl ?_
  simp only [go_sem, qa, qb, qc, qd, qe, qf, qg, qh, qi, qj, qk, ql, qm, qn, qo, qp, qq, qr, qs, reduceIte, reduceCtorEq]
  have v1 := knows_in u6
  
  
  have ks := ok_small w1
  have ko := ok_small w3
  have cN := WayNext_ok a.state (b.past.getD (h - 1).toNat default) ks.2.2.2.1.1 ks.2.2.2.1.2 (ko.2.2.2.2.2.1 _).1 (ko.2.2.2.2.2.1 _).2
  have cL := next_len a.state (b.past.getD (h - 1).toNat default) 7
  repeat' (first | (refine AWp.join (x := .seq (.region 38 _ _) (.cond _ _ _)) (jE2 l ⟨a, b⟩ a b 2 10 1) (fun x => 0 ≤ x.1 ∧ x.1 ≤ 90 ∧ p ≤ x.2.1 ∧ x.2.1 ≤ p + 18) ?_ ?_) | refine AWp.seq fun K hK => ?_ | refine hK _ ?_; clear hK K | refine hX ?_; clear hX hY X Y | refine hY ?_; clear hX hY X Y | refine AWp.block ?_ | refine hL _ _ ?_ | ((first | refine AWp.region tok (by rw [hnt]; rfl) ?_ | refine AWp.cond' fun X Y hX hY => ?_ | refine AWp.skip ?_ | refine AWp.exit ?_ | refine AWp.ret ?_ | refine Fin.auto [] ?_ | refine runS_pick l hl rfl ?_ ?_ ?_ (fun x hx => ?_) | refine runS_v [] (cN) ?_ ?_ ?_ ?_ ?_ | refine AWp.draw (id := 8) tok mixed pl_ev_rest_10 [20, 21, 16] [0, 6] (by kernel_rfl) (by kernel_rfl) (by rw [hnt]; rfl) ?_ | refine AWp.draw (id := 15) tok mixed pl_ev_rest_11 [20, 21, 16] [0, 4, 5, 7] (by kernel_rfl) (by kernel_rfl) (by rw [hnt]; rfl) ?_ | refine AWp.draw (id := 18) tok mixed pl_ev_rest_12 [20, 21, 16] [0, 7] (by kernel_rfl) (by kernel_rfl) (by rw [hnt]; rfl) ?_ | refine AWp.draw (id := 32) tok mixed pl_ev_rest_13 [20, 21, 16] [0, 7] (by kernel_rfl) (by kernel_rfl) (by rw [hnt]; rfl) ?_ | refine AWp.draw (id := 39) tok mixed pl_ev_rest_14 [20, 21, 16] [6, 7, 8] (by kernel_rfl) (by kernel_rfl) (by rw [hnt]; rfl) ?_ | refine effS_pick l hl rfl ?_ ?_ ?_ (fun x hx => ?_) | refine effS_v [] (cN) ?_ ?_ ?_ ?_ ?_ | ((first | apply gR | apply gC | apply gT | apply gE) <;> intro hq <;> (try simp only [nT, nF, n1, n0] at hq) <;> (have hb := hq) <;> (try simp only [dT, dF, eT, eF] at hb) <;> first | (exfalso; omega) | ((try simp only [hq]); clear hq))) <;> (try simp only [go_sem, qa, qb, qc, qd, qe, qf, qg, qh, qi, qj, qk, ql, qm, qn, qo, qp, qq, qr, qs, reduceIte, reduceCtorEq])) | refine Fits.of ?_ ?_ | (refine aL ?_ (fun hp => ?_) <;> ((try simp only [rowSet_fI hp, rowSet_fI2 hp]); (try simp only [rowSet_fB hp]))) | refine aE ?_ fun hp => ?_ | refine aC ?_ fun hp => ?_ | refine And.intro ?_ ?_ | clear hK K | clear hX hY X Y | clear hL L)
  all_goals try omega
  all_goals try (
    apply Exists.intro (_, _, _)
    apply And.intro
    rotate_left
    focus (refine SLe.auto hk0 [] ?_; simp only [go_sem, qa, qb, qc, qd, qe, qf, qg, qh, qi, qj, qk, ql, qm, qn, qo, qp, qq, qr, qs, reduceIte, reduceCtorEq, jE2]; first | done | rfl | (repeat' (apply And.intro)) <;> first | rfl | trivial)
    try dsimp only
    omega)
  clear g1 g2 g3 g4
  rintro ⟨h, r, st⟩ ⟨g1, g2, g3, g4⟩
  simp only [] at g1 g2 g3 g4
  simp only [go_sem, qa, qb, qc, qd, qe, qf, qg, qh, qi, qj, qk, ql, qm, qn, qo, qp, qq, qr, qs, reduceIte, reduceCtorEq]
  repeat' (first | refine AWp.seq fun K hK => ?_ | refine hK _ ?_; clear hK K | refine hX ?_; clear hX hY X Y | refine hY ?_; clear hX hY X Y | refine AWp.block ?_ | refine hL _ _ ?_ | ((first | refine AWp.region tok (by rw [hnt]; rfl) ?_ | refine AWp.cond' fun X Y hX hY => ?_ | refine AWp.skip ?_ | refine AWp.exit ?_ | refine AWp.ret ?_ | refine Fin.auto [] ?_ | refine runS_pick l hl rfl ?_ ?_ ?_ (fun x hx => ?_) | refine AWp.draw (id := 8) tok mixed pl_ev_rest_10 [20, 21, 16] [0, 6] (by kernel_rfl) (by kernel_rfl) (by rw [hnt]; rfl) ?_ | refine AWp.draw (id := 15) tok mixed pl_ev_rest_11 [20, 21, 16] [0, 4, 5, 7] (by kernel_rfl) (by kernel_rfl) (by rw [hnt]; rfl) ?_ | refine AWp.draw (id := 18) tok mixed pl_ev_rest_12 [20, 21, 16] [0, 7] (by kernel_rfl) (by kernel_rfl) (by rw [hnt]; rfl) ?_ | refine AWp.draw (id := 32) tok mixed pl_ev_rest_13 [20, 21, 16] [0, 7] (by kernel_rfl) (by kernel_rfl) (by rw [hnt]; rfl) ?_ | refine AWp.draw (id := 39) tok mixed pl_ev_rest_14 [20, 21, 16] [6, 7, 8] (by kernel_rfl) (by kernel_rfl) (by rw [hnt]; rfl) ?_ | refine effS_pick l hl rfl ?_ ?_ ?_ (fun x hx => ?_) | ((first | apply gR | apply gC | apply gT | apply gE) <;> intro hq <;> (try simp only [nT, nF, n1, n0] at hq) <;> (have hb := hq) <;> (try simp only [dT, dF, eT, eF] at hb) <;> first | (exfalso; omega) | ((try simp only [hq]); clear hq))) <;> (try simp only [go_sem, qa, qb, qc, qd, qe, qf, qg, qh, qi, qj, qk, ql, qm, qn, qo, qp, qq, qr, qs, reduceIte, reduceCtorEq])) | refine Fits.of ?_ ?_ | (refine aL ?_ (fun hp => ?_) <;> ((try simp only [rowSet_fI hp, rowSet_fI2 hp]); (try simp only [rowSet_fB hp]))) | refine aE ?_ fun hp => ?_ | refine aC ?_ fun hp => ?_ | refine And.intro ?_ ?_ | clear hK K | clear hX hY X Y | clear hL L)
  all_goals try omega
  all_goals try (
    (apply Exists.intro ((⟨_, _, _, _, ⟨_, _, _, _, _, _, _⟩⟩, _)); apply And.intro; rotate_left; focus (refine Fin.auto [] ?_; simp only [go_sem, qa, qb, qc, qd, qe, qf, qg, qh, qi, qj, qk, ql, qm, qn, qo, qp, qq, qr, qs, reduceIte, reduceCtorEq]; first | rfl | refine ⟨?_, ?_⟩ <;> rfl | (repeat' (apply And.intro)) <;> first | rfl | trivial); try dsimp only)
    try dsimp only
    omega)
end Go.Hw
/- What is proved: the draw of an event on chain 2: its steps of a way. -/
set_option linter.all false
set_option maxRecDepth 100000
set_option maxHeartbeats 16000000
namespace Go.Hw
open Go.Proofs
open Nat renaming reduceDiv → qa, reduceMod → qb, reduceAdd → qc, reduceMul → qd, reduceSub → qe, reduceLeDiff → qf, reduceBEq → qg, reduceEqDiff → qh, reduceBeqDiff → qi, reduceLT → qj
open Int renaming reduceToNat → qk, reduceAdd → ql, reduceSub → qm, reduceNeg → qn, reduceLT → qo, reduceLE → qp, reduceEq → qq, reduceBEq → qr, reduceBNe → qs
open Go.Hw renaming runG_split → gR, condG_split → gC, takG_split → gT, effG_split → gE
def pl_ev_rest_20 : Plan := (.tak 0 (.tak 1 (.tak 2 (.tak 3 (.tak 4 (.tak 5 (.all (.cons 6 (.tak 7 (.all (.cons 8 (.tak 9 .done) .nil))) .nil))))))))
attribute [go_sem] pl_ev_rest_20
def pl_ev_rest_21 : Plan := (.tak 0 (.tak 1 (.tak 2 (.tak 3 (.tak 4 (.all (.cons 5 (.tak 6 (.tak 7 (.all (.cons 8 (.all (.cons 9 (.all (.cons 10 .done .nil)) .nil)) .nil)))) .nil)))))))
attribute [go_sem] pl_ev_rest_21
def pl_ev_rest_22 : Plan := (.tak 0 (.tak 4 (.tak 7 (.tak 10 (.tak 13 (.tak 14 (.tak 15 (.tak 16 (.tak 17 (.all (.cons 1 (.tak 2 (.tak 3 (.all (.cons 5 (.tak 6 (.all (.cons 8 (.tak 9 (.all (.cons 11 (.tak 12 (.all (.cons 18 (.tak 19 (.all (.cons 20 (.all (.cons 21 (.all (.cons 22 .done .nil)) .nil)) (.cons 21 (.all (.cons 20 (.all (.cons 22 .done .nil)) .nil)) .nil)))) (.cons 21 (.all (.cons 18 (.tak 19 (.all (.cons 20 (.all (.cons 22 .done .nil)) .nil))) .nil)) .nil)))) (.cons 21 (.all (.cons 11 (.tak 12 (.all (.cons 18 (.tak 19 (.all (.cons 20 (.all (.cons 22 .done .nil)) .nil))) .nil))) .nil)) .nil)))) (.cons 21 (.all (.cons 8 (.tak 9 (.all (.cons 11 (.tak 12 (.all (.cons 18 (.tak 19 (.all (.cons 20 (.all (.cons 22 .done .nil)) .nil))) .nil))) .nil))) .nil)) .nil)))) (.cons 21 (.all (.cons 5 (.tak 6 (.all (.cons 8 (.tak 9 (.all (.cons 11 (.tak 12 (.all (.cons 18 (.tak 19 (.all (.cons 20 (.all (.cons 22 .done .nil)) .nil))) .nil))) .nil))) .nil))) .nil)) .nil))))) (.cons 21 (.all (.cons 1 (.tak 2 (.tak 3 (.all (.cons 5 (.tak 6 (.all (.cons 8 (.tak 9 (.all (.cons 11 (.tak 12 (.all (.cons 18 (.tak 19 (.all (.cons 20 (.all (.cons 22 .done .nil)) .nil))) .nil))) .nil))) .nil))) .nil)))) .nil)) .nil))))))))))))
attribute [go_sem] pl_ev_rest_22
def pl_ev_rest_23 : Plan := (.tak 0 (.tak 1 (.tak 2 (.tak 3 (.tak 4 (.tak 5 (.tak 6 (.tak 7 (.all (.cons 8 (.tak 9 (.all (.cons 10 (.all (.cons 11 (.all (.cons 12 .done .nil)) .nil)) (.cons 11 (.all (.cons 10 (.all (.cons 12 .done .nil)) .nil)) .nil)))) (.cons 11 (.all (.cons 8 (.tak 9 (.all (.cons 10 (.all (.cons 12 .done .nil)) .nil))) .nil)) .nil)))))))))))
attribute [go_sem] pl_ev_rest_23
def pl_ev_rest_24 : Plan := (.tak 0 (.tak 1 (.tak 2 (.tak 3 (.tak 4 (.tak 5 (.tak 6 (.tak 7 (.all (.cons 8 (.tak 9 .done) .nil))))))))))
attribute [go_sem] pl_ev_rest_24
theorem ev_rest_2 (l : List Int) (p : Int) (a b : Chain) (hl : Bytes l) (h0 : 0 ≤ p) (h9 : p ≤ 10000) (ok1 : wOk [a, b] = true) (cx : Ctx) (hnt : cx.nt = 234) (hk0 : cx.k0 = 18) (h r : Int) (g1 : 0 ≤ h) (g2 : h ≤ 90) (g3 : p ≤ r) (g4 : r ≤ p + 14) : AWp Tryz.prog cx (Code.pt evC [true, true, true, true, true, true, true]) (finQ ti [ResultVar.cell 4 48] 18 (fun x : Event × Int => p ≤ x.2 ∧ x.2 ≤ p + 40) (fun x => AV.o x.1.av) (fun x => rdH l x.2 0 ++ worldH ⟨a, b⟩ 1) 18) (jE1 l ⟨a, b⟩ b a 10 2 2 (h, r)) := by
  obtain ⟨w1, w2, w3, w4⟩ := wOk_two ok1
  obtain ⟨q1, q2, q3, q4, q5, q6⟩ := chain_ok w3
  obtain ⟨u1, u2, u3, u4, u5, u6⟩ := chain_ok w1
  have q7 := knows_len q6
  have u7 := knows_len u6
  obtain ⟨r1, r2, r3, r4, r5, r6, r7, r8, r9⟩ := state_ok q3
  obtain ⟨t1, t2, t3, t4, t5, t6, t7, t8, t9⟩ := state_ok u3
  refine AWp.code_eq (y := .seq _ _) rfl ?_
  simp only [go_sem, qa, qb, qc, qd, qe, qf, qg, qh, qi, qj, qk, ql, qm, qn, qo, qp, qq, qr, qs, reduceIte, reduceCtorEq]
  have v1 := knows_in q6
  
  
  have ks := ok_small w3
  have ko := ok_small w1
  have cN := WayNext_ok b.state (a.past.getD (h - 1).toNat default) ks.2.2.2.1.1 ks.2.2.2.1.2 (ko.2.2.2.2.2.1 _).1 (ko.2.2.2.2.2.1 _).2
  have cL := next_len b.state (a.past.getD (h - 1).toNat default) 7
  repeat' (first | (refine AWp.join (x := .seq (.region 38 _ _) (.cond _ _ _)) (jE2 l ⟨a, b⟩ b a 10 2 2) (fun x => 0 ≤ x.1 ∧ x.1 ≤ 90 ∧ p ≤ x.2.1 ∧ x.2.1 ≤ p + 18) ?_ ?_) | refine AWp.seq fun K hK => ?_ | refine hK _ ?_; clear hK K | refine hX ?_; clear hX hY X Y | refine hY ?_; clear hX hY X Y | refine AWp.block ?_ | refine hL _ _ ?_ | ((first | refine AWp.region tok (by rw [hnt]; rfl) ?_ | refine AWp.cond' fun X Y hX hY => ?_ | refine AWp.skip ?_ | refine AWp.exit ?_ | refine AWp.ret ?_ | refine Fin.auto [] ?_ | refine runS_pick l hl rfl ?_ ?_ ?_ (fun x hx => ?_) | refine runS_v [] (cN) ?_ ?_ ?_ ?_ ?_ | refine AWp.draw (id := 8) tok mixed pl_ev_rest_20 [20, 21, 8] [0, 6] (by kernel_rfl) (by kernel_rfl) (by rw [hnt]; rfl) ?_ | refine AWp.draw (id := 15) tok mixed pl_ev_rest_21 [20, 21, 8] [0, 4, 5, 7] (by kernel_rfl) (by kernel_rfl) (by rw [hnt]; rfl) ?_ | refine AWp.draw (id := 18) tok mixed pl_ev_rest_22 [20, 21, 8] [0, 7] (by kernel_rfl) (by kernel_rfl) (by rw [hnt]; rfl) ?_ | refine AWp.draw (id := 32) tok mixed pl_ev_rest_23 [20, 21, 8] [0, 7] (by kernel_rfl) (by kernel_rfl) (by rw [hnt]; rfl) ?_ | refine AWp.draw (id := 39) tok mixed pl_ev_rest_24 [20, 21, 8] [6, 7, 8] (by kernel_rfl) (by kernel_rfl) (by rw [hnt]; rfl) ?_ | refine effS_pick l hl rfl ?_ ?_ ?_ (fun x hx => ?_) | refine effS_v [] (cN) ?_ ?_ ?_ ?_ ?_ | ((first | apply gR | apply gC | apply gT | apply gE) <;> intro hq <;> (try simp only [nT, nF, n1, n0] at hq) <;> (have hb := hq) <;> (try simp only [dT, dF, eT, eF] at hb) <;> first | (exfalso; omega) | ((try simp only [hq]); clear hq))) <;> (try simp only [go_sem, qa, qb, qc, qd, qe, qf, qg, qh, qi, qj, qk, ql, qm, qn, qo, qp, qq, qr, qs, reduceIte, reduceCtorEq])) | refine Fits.of ?_ ?_ | (refine aL ?_ (fun hp => ?_) <;> ((try simp only [rowSet_fI hp, rowSet_fI2 hp]); (try simp only [rowSet_fB hp]))) | refine aE ?_ fun hp => ?_ | refine aC ?_ fun hp => ?_ | refine And.intro ?_ ?_ | clear hK K | clear hX hY X Y | clear hL L)
  all_goals try omega
  all_goals try (
    apply Exists.intro (_, _, _)
    apply And.intro
    rotate_left
    focus (refine SLe.auto hk0 [] ?_; simp only [go_sem, qa, qb, qc, qd, qe, qf, qg, qh, qi, qj, qk, ql, qm, qn, qo, qp, qq, qr, qs, reduceIte, reduceCtorEq, jE2]; first | done | rfl | (repeat' (apply And.intro)) <;> first | rfl | trivial)
    try dsimp only
    omega)
  clear g1 g2 g3 g4
  rintro ⟨h, r, st⟩ ⟨g1, g2, g3, g4⟩
  simp only [] at g1 g2 g3 g4
  simp only [go_sem, qa, qb, qc, qd, qe, qf, qg, qh, qi, qj, qk, ql, qm, qn, qo, qp, qq, qr, qs, reduceIte, reduceCtorEq]
  repeat' (first | refine AWp.seq fun K hK => ?_ | refine hK _ ?_; clear hK K | refine hX ?_; clear hX hY X Y | refine hY ?_; clear hX hY X Y | refine AWp.block ?_ | refine hL _ _ ?_ | ((first | refine AWp.region tok (by rw [hnt]; rfl) ?_ | refine AWp.cond' fun X Y hX hY => ?_ | refine AWp.skip ?_ | refine AWp.exit ?_ | refine AWp.ret ?_ | refine Fin.auto [] ?_ | refine runS_pick l hl rfl ?_ ?_ ?_ (fun x hx => ?_) | refine AWp.draw (id := 8) tok mixed pl_ev_rest_20 [20, 21, 8] [0, 6] (by kernel_rfl) (by kernel_rfl) (by rw [hnt]; rfl) ?_ | refine AWp.draw (id := 15) tok mixed pl_ev_rest_21 [20, 21, 8] [0, 4, 5, 7] (by kernel_rfl) (by kernel_rfl) (by rw [hnt]; rfl) ?_ | refine AWp.draw (id := 18) tok mixed pl_ev_rest_22 [20, 21, 8] [0, 7] (by kernel_rfl) (by kernel_rfl) (by rw [hnt]; rfl) ?_ | refine AWp.draw (id := 32) tok mixed pl_ev_rest_23 [20, 21, 8] [0, 7] (by kernel_rfl) (by kernel_rfl) (by rw [hnt]; rfl) ?_ | refine AWp.draw (id := 39) tok mixed pl_ev_rest_24 [20, 21, 8] [6, 7, 8] (by kernel_rfl) (by kernel_rfl) (by rw [hnt]; rfl) ?_ | refine effS_pick l hl rfl ?_ ?_ ?_ (fun x hx => ?_) | ((first | apply gR | apply gC | apply gT | apply gE) <;> intro hq <;> (try simp only [nT, nF, n1, n0] at hq) <;> (have hb := hq) <;> (try simp only [dT, dF, eT, eF] at hb) <;> first | (exfalso; omega) | ((try simp only [hq]); clear hq))) <;> (try simp only [go_sem, qa, qb, qc, qd, qe, qf, qg, qh, qi, qj, qk, ql, qm, qn, qo, qp, qq, qr, qs, reduceIte, reduceCtorEq])) | refine Fits.of ?_ ?_ | (refine aL ?_ (fun hp => ?_) <;> ((try simp only [rowSet_fI hp, rowSet_fI2 hp]); (try simp only [rowSet_fB hp]))) | refine aE ?_ fun hp => ?_ | refine aC ?_ fun hp => ?_ | refine And.intro ?_ ?_ | clear hK K | clear hX hY X Y | clear hL L)
  all_goals try omega
  all_goals try (
    (apply Exists.intro ((⟨_, _, _, _, ⟨_, _, _, _, _, _, _⟩⟩, _)); apply And.intro; rotate_left; focus (refine Fin.auto [] ?_; simp only [go_sem, qa, qb, qc, qd, qe, qf, qg, qh, qi, qj, qk, ql, qm, qn, qo, qp, qq, qr, qs, reduceIte, reduceCtorEq]; first | rfl | refine ⟨?_, ?_⟩ <;> rfl | (repeat' (apply And.intro)) <;> first | rfl | trivial); try dsimp only)
    try dsimp only
    omega)
end Go.Hw
/- What is proved: what opens the way is drawn. -/
set_option linter.all false
set_option maxRecDepth 100000
set_option maxHeartbeats 8000000
namespace Go.Hw
open Go.Proofs
open Nat renaming reduceDiv → qa, reduceMod → qb, reduceAdd → qc, reduceMul → qd, reduceSub → qe, reduceLeDiff → qf, reduceBEq → qg, reduceEqDiff → qh, reduceBeqDiff → qi, reduceLT → qj
open Int renaming reduceToNat → qk, reduceAdd → ql, reduceSub → qm, reduceNeg → qn, reduceLT → qo, reduceLE → qp, reduceEq → qq, reduceBEq → qr, reduceBNe → qs
open Go.Hw renaming runG_split → gR, condG_split → gC, takG_split → gT, effG_split → gE
def evCx : List Event → List Cell
  | [] => []
  | e :: r => tab 11 0 (fun j => .t (e.tv j)) ++ evCx r
theorem evC_len : ∀ es : List Event, (evCx es).length = es.length * 11
  | [] => rfl
  | e :: r => by rw [evCx, List.length_append, tab_length, evC_len r, List.length_cons]; omega
theorem evTab_get (e : Event) (j : Nat) (h : j < 11) (r : List Cell) : (tab 11 0 (fun j => Cell.t (e.tv j)) ++ r).getD j nix = .t (e.tv j) := by
  match j, h with
  | 0, _ => rfl
  | 1, _ => rfl
  | 2, _ => rfl
  | 3, _ => rfl
  | 4, _ => rfl
  | 5, _ => rfl
  | 6, _ => rfl
  | 7, _ => rfl
  | 8, _ => rfl
  | 9, _ => rfl
  | 10, _ => rfl
theorem evC_get : ∀ (es : List Event) (i j : Nat), j < 11 → i < es.length → (evCx es).getD (i * 11 + j) nix = .t ((es.getD i default).tv j)
  | [], i, j, _, h => by simp at h
  | e :: r, 0, j, hj, _ => by
    rw [evCx, Nat.zero_mul, Nat.zero_add, evTab_get e j hj]; rfl
  | e :: r, i + 1, j, hj, h => by
    have h2 : i < r.length := by simpa using h
    have := evC_get r i j hj h2
    rw [evCx]
    unfold List.getD at this ⊢
    rw [List.getElem?_append_right (by rw [tab_length]; omega), tab_length]
    have e1 : (i + 1) * 11 + j - 11 = i * 11 + j := by omega
    rw [e1, this]; simp
theorem ev_dfl (e : Event) (j : Nat) (h : j < 11) : dfl (.t (e.tv j)) = .t ((default : Event).tv j) := by
  match j, h with
  | 0, _ => rfl
  | 1, _ => rfl
  | 2, _ => rfl
  | 3, _ => rfl
  | 4, _ => rfl
  | 5, _ => rfl
  | 6, _ => rfl
  | 7, _ => rfl
  | 8, _ => rfl
  | 9, _ => rfl
  | 10, _ => rfl
theorem ev_out (e : Event) (j : Nat) (h : ¬ j < 11) : nix = .t (e.tv j) := by
  match j, h with
  | j + 11, _ => rfl
theorem rowOf_evs (e : Event) (r : List Event) : rowOf 11 (evCx (e :: r)) = fE (e :: r) := by
  funext i j; unfold rowOf fE
  by_cases h : j < 11
  · rw [if_pos h, evC_len]
    by_cases hi : i < (e :: r).length
    · rw [if_pos (by omega), evC_get _ _ _ h hi]
    · rw [if_neg (by omega)]
      have : (e :: r).getD i default = default := by unfold List.getD; rw [List.getElem?_eq_none (Nat.le_of_not_lt hi)]; rfl
      rw [this, evCx, evTab_get e j h, ev_dfl e j h]
  · rw [if_neg h]; exact ev_out _ _ h
def p0 : Packet := ⟨0, 0, 0, 0, 0, 0, 0⟩
def openEs (a b : Int) : List Event := [⟨7, a, 0, 1, p0⟩, ⟨1, a, 0, 0, p0⟩, ⟨2, b, 1, 0, p0⟩, ⟨7, b, 1, 2, p0⟩, ⟨1, b, 0, 0, p0⟩, ⟨2, a, 1, 0, p0⟩, ⟨7, a, 1, 3, p0⟩, ⟨1, a, 0, 0, p0⟩, ⟨2, b, 2, 0, p0⟩, ⟨7, b, 2, 4, p0⟩]
theorem l71Open_ok (l : List Int) (p : Int) (hl : Bytes l) (h0 : 0 ≤ p) (h9 : p ≤ 10000) : CallX (α := List Event × Int) Tryz.prog 55 [.c (.ptr 0 0 0 0)] (rdH l p 0) 1 (fun x => x.1.length ≤ 10 ∧ p ≤ x.2 ∧ x.2 ≤ p + 2) (fun x => .o (.c (.sl 1 11 0 x.1.length))) (fun x => rdH l x.2 0 ++ [(1, rE x.1)]) 2 := by
  refine CallX.of tok Tryz.func55 rfl rfl Tryz.ntmps55 Tryz.results55 rfl (by decide) (fun cx hnt hk0 => ?_)
  repeat' (first | refine AWp.seq fun K hK => ?_ | refine hK _ ?_; clear hK K | refine hX ?_; clear hX hY X Y | refine hY ?_; clear hX hY X Y | refine AWp.block ?_ | refine hL _ _ ?_ | ((first | refine AWp.region tok (by rw [hnt]; rfl) ?_ | refine AWp.cond' fun X Y hX hY => ?_ | refine AWp.skip ?_ | refine AWp.exit ?_ | refine AWp.ret ?_ | refine Fin.auto [] ?_ | refine runS_pick l hl rfl ?_ ?_ ?_ (fun x hx => ?_) | ((first | apply gR | apply gC) <;> intro hq <;> (try simp only [nT, nF, n1, n0] at hq) <;> (have hb := hq) <;> (try simp only [dT, dF, eT, eF] at hb) <;> first | (exfalso; omega) | ((try simp only [hq]); clear hq))) <;> (try simp only [go_sem, qa, qb, qc, qd, qe, qf, qg, qh, qi, qj, qk, ql, qm, qn, qo, qp, qq, qr, qs, reduceIte, reduceCtorEq])) | refine Fits.of ?_ ?_ | (refine aL ?_ (fun hp => ?_) <;> ((try simp only [rowSet_fI hp, rowSet_fI2 hp]); (try simp only [rowSet_fB hp]))) | refine aE ?_ fun hp => ?_ | refine aC ?_ fun hp => ?_ | refine And.intro ?_ ?_ | clear hK K | clear hX hY X Y | clear hL L)
  all_goals try omega
  · refine ⟨([], p + 1), ⟨by simp, by dsimp only; omega, by dsimp only; omega⟩, ?_⟩
    refine Fin.auto [] ?_
    simp only [go_sem, qa, qb, qc, qd, qe, qf, qg, qh, qi, qj, qk, ql, qm, qn, qo, qp, qq, qr, qs, reduceIte, reduceCtorEq, List.length_nil]
  · refine ⟨(openEs (1 + x) (3 - (1 + x)), p + 1 + 1), ⟨by simp [openEs], by dsimp only; omega, by dsimp only; omega⟩, ?_⟩
    have e : (openEs (1 + x) (3 - (1 + x))).length = 10 := rfl
    refine Fin.auto [] ?_
    simp only [go_sem, qa, qb, qc, qd, qe, qf, qg, qh, qi, qj, qk, ql, qm, qn, qo, qp, qq, qr, qs, reduceIte, reduceCtorEq, e]
    have eo := rowOf_evs ⟨7, 1 + x, 0, 1, p0⟩ (openEs (1 + x) (3 - (1 + x))).tail
    have e2 : (⟨7, 1 + x, 0, 1, p0⟩ : Event) :: (openEs (1 + x) (3 - (1 + x))).tail = openEs (1 + x) (3 - (1 + x)) := rfl
    rw [e2] at eo
    generalize hR : fE (openEs (1 + x) (3 - (1 + x))) = R at eo ⊢
    simp only [evCx, openEs, p0, tab, go_sem, List.cons_append, List.nil_append] at eo
    simp only [eo]
    rw [← hR]
    simp only [go_sem]
end Go.Hw
