/- What is proved here: parts W30, W32, W34 of the walk of the law and of its plain side; no condition but those that each theorem states. -/
import Derived.Test.YtcbceacjhmblnaaGreatC5
import Derived.Test.YtcbceacjhmblnaaGreatC6
import Derived.Test.YtcbceacjhmblnaaGreatC4
import Derived.Test.YtcbceacjhmblnaaGreatB5
import Derived.Test.YtcbceacjhmblnaaGreatA4
import Derived.Test.YtcbceacjhmblnaaGreatC1
/- What is proved: what may happen is drawn. -/
set_option linter.all false
set_option maxRecDepth 100000
set_option maxHeartbeats 16000000
namespace Go.Hw
open Go.Proofs
open Nat renaming reduceDiv → qa, reduceMod → qb, reduceAdd → qc, reduceMul → qd, reduceSub → qe, reduceLeDiff → qf, reduceBEq → qg, reduceEqDiff → qh, reduceBeqDiff → qi, reduceLT → qj
open Int renaming reduceToNat → qk, reduceAdd → ql, reduceSub → qm, reduceNeg → qn, reduceLT → qo, reduceLE → qp, reduceEq → qq, reduceBEq → qr, reduceBNe → qs
open Go.Hw renaming runG_split → gR, condG_split → gC, takG_split → gT, effG_split → gE
def pl_l71Event_ok0 : Plan := (.tak 0 (.tak 1 (.tak 2 (.tak 3 (.tak 4 (.tak 5 (.all (.cons 6 (.tak 7 (.all (.cons 8 (.tak 9 .done) .nil))) .nil))))))))
attribute [go_sem] pl_l71Event_ok0
def pl_l71Event_ok1 : Plan := (.tak 0 (.tak 1 (.tak 2 (.tak 3 (.tak 4 (.all (.cons 5 (.tak 6 (.tak 7 (.all (.cons 8 (.all (.cons 9 (.all (.cons 10 .done .nil)) .nil)) .nil)))) .nil)))))))
attribute [go_sem] pl_l71Event_ok1
def pl_l71Event_ok2 : Plan := (.tak 0 (.tak 4 (.tak 7 (.tak 10 (.tak 13 (.tak 14 (.tak 15 (.tak 16 (.tak 17 (.all (.cons 1 (.tak 2 (.tak 3 (.all (.cons 5 (.tak 6 (.all (.cons 8 (.tak 9 (.all (.cons 11 (.tak 12 (.all (.cons 18 (.tak 19 (.all (.cons 20 (.all (.cons 21 (.all (.cons 22 .done .nil)) .nil)) (.cons 21 (.all (.cons 20 (.all (.cons 22 .done .nil)) .nil)) .nil)))) (.cons 21 (.all (.cons 18 (.tak 19 (.all (.cons 20 (.all (.cons 22 .done .nil)) .nil))) .nil)) .nil)))) (.cons 21 (.all (.cons 11 (.tak 12 (.all (.cons 18 (.tak 19 (.all (.cons 20 (.all (.cons 22 .done .nil)) .nil))) .nil))) .nil)) .nil)))) (.cons 21 (.all (.cons 8 (.tak 9 (.all (.cons 11 (.tak 12 (.all (.cons 18 (.tak 19 (.all (.cons 20 (.all (.cons 22 .done .nil)) .nil))) .nil))) .nil))) .nil)) .nil)))) (.cons 21 (.all (.cons 5 (.tak 6 (.all (.cons 8 (.tak 9 (.all (.cons 11 (.tak 12 (.all (.cons 18 (.tak 19 (.all (.cons 20 (.all (.cons 22 .done .nil)) .nil))) .nil))) .nil))) .nil))) .nil)) .nil))))) (.cons 21 (.all (.cons 1 (.tak 2 (.tak 3 (.all (.cons 5 (.tak 6 (.all (.cons 8 (.tak 9 (.all (.cons 11 (.tak 12 (.all (.cons 18 (.tak 19 (.all (.cons 20 (.all (.cons 22 .done .nil)) .nil))) .nil))) .nil))) .nil))) .nil)))) .nil)) .nil))))))))))))
attribute [go_sem] pl_l71Event_ok2
def pl_l71Event_ok3 : Plan := (.tak 0 (.tak 1 (.tak 2 (.tak 3 (.tak 4 (.tak 5 (.tak 6 (.tak 7 (.all (.cons 8 (.tak 9 (.all (.cons 10 (.all (.cons 11 (.all (.cons 12 .done .nil)) .nil)) (.cons 11 (.all (.cons 10 (.all (.cons 12 .done .nil)) .nil)) .nil)))) (.cons 11 (.all (.cons 8 (.tak 9 (.all (.cons 10 (.all (.cons 12 .done .nil)) .nil))) .nil)) .nil)))))))))))
attribute [go_sem] pl_l71Event_ok3
def pl_l71Event_ok4 : Plan := (.tak 0 (.tak 1 (.tak 2 (.tak 3 (.tak 4 (.tak 5 (.tak 6 (.tak 7 (.all (.cons 8 (.tak 9 .done) .nil))))))))))
attribute [go_sem] pl_l71Event_ok4
theorem l71Event_ok (l : List Int) (p : Int) (w : Two) (hl : Bytes l) (h0 : 0 ≤ p) (h9 : p ≤ 10000) (ok1 : wOk w.list = true) : CallX (α := Event × Int) Tryz.prog 56 [.c (.ptr 0 0 0 0), .g (worldA 1)] (rdH l p 0 ++ worldH w 1) 18 (fun x => p ≤ x.2 ∧ x.2 ≤ p + 40) (fun x => .o x.1.av) (fun x => rdH l x.2 0 ++ worldH w 1) 18 := by
  obtain ⟨a, b⟩ := w
  have ok1 : wOk [a, b] = true := ok1
  obtain ⟨w1, w2, w3, w4⟩ := wOk_two ok1
  obtain ⟨q1, q2, q3, q4, q5, q6⟩ := chain_ok w3
  obtain ⟨u1, u2, u3, u4, u5, u6⟩ := chain_ok w1
  have q7 := knows_len q6
  have u7 := knows_len u6
  obtain ⟨r1, r2, r3, r4, r5, r6, r7, r8, r9⟩ := state_ok q3
  obtain ⟨t1, t2, t3, t4, t5, t6, t7, t8, t9⟩ := state_ok u3
  refine CallX.of tok Tryz.func56 rfl rfl Tryz.ntmps56 Tryz.results56 rfl (by decide) (fun cx hnt hk0 => ?_)
  refine AWp.seq fun K hK => ?_
  refine AWp.region tok (by rw [hnt]; rfl) ?_
  simp only [go_sem, qa, qb, qc, qd, qe, qf, qg, qh, qi, qj, qk, ql, qm, qn, qo, qp, qq, qr, qs, reduceIte, reduceCtorEq]
  refine hK _ ?_; clear hK K
  refine AWp.seq fun K hK => ?_
  refine AWp.region tok (by rw [hnt]; rfl) ?_
  simp only [go_sem, qa, qb, qc, qd, qe, qf, qg, qh, qi, qj, qk, ql, qm, qn, qo, qp, qq, qr, qs, reduceIte, reduceCtorEq]
  refine runS_pick l hl rfl ?_ ?_ ?_ (fun x hx => ?_)
  · omega
  · omega
  · simp
  have ex : x = 0 ∨ x = 1 := by omega
  clear hx
  rcases ex with rfl | rfl
  · skip
    simp only [go_sem, qa, qb, qc, qd, qe, qf, qg, qh, qi, qj, qk, ql, qm, qn, qo, qp, qq, qr, qs, reduceIte, reduceCtorEq]
    have v1 := knows_in u6
    
    repeat' (first | (refine AWp.join (x := .seq (.region 5 _ _) (.cond _ _ _)) (jE1 l ⟨a, b⟩ a b 2 10 1) (fun x => 0 ≤ x.1 ∧ x.1 ≤ 90 ∧ p ≤ x.2 ∧ x.2 ≤ p + 4) ?_ ?_) | refine AWp.seq fun K hK => ?_ | refine hK _ ?_; clear hK K | refine hX ?_; clear hX hY X Y | refine hY ?_; clear hX hY X Y | refine AWp.block ?_ | refine hL _ _ ?_ | ((first | refine AWp.region tok (by rw [hnt]; rfl) ?_ | refine AWp.cond' fun X Y hX hY => ?_ | refine AWp.skip ?_ | refine AWp.exit ?_ | refine AWp.ret ?_ | refine Fin.auto [] ?_ | refine runS_pick l hl rfl ?_ ?_ ?_ (fun x hx => ?_) | refine AWp.draw (id := 8) tok mixed pl_l71Event_ok0 [20, 21, 16] [0, 6] (by kernel_rfl) (by kernel_rfl) (by rw [hnt]; rfl) ?_ | refine AWp.draw (id := 15) tok mixed pl_l71Event_ok1 [20, 21, 16] [0, 4, 5, 7] (by kernel_rfl) (by kernel_rfl) (by rw [hnt]; rfl) ?_ | refine AWp.draw (id := 18) tok mixed pl_l71Event_ok2 [20, 21, 16] [0, 7] (by kernel_rfl) (by kernel_rfl) (by rw [hnt]; rfl) ?_ | refine AWp.draw (id := 32) tok mixed pl_l71Event_ok3 [20, 21, 16] [0, 7] (by kernel_rfl) (by kernel_rfl) (by rw [hnt]; rfl) ?_ | refine AWp.draw (id := 39) tok mixed pl_l71Event_ok4 [20, 21, 16] [6, 7, 8] (by kernel_rfl) (by kernel_rfl) (by rw [hnt]; rfl) ?_ | refine effS_pick l hl rfl ?_ ?_ ?_ (fun x hx => ?_) | ((first | apply gR | apply gC | apply gT | apply gE) <;> intro hq <;> (try simp only [nT, nF, n1, n0] at hq) <;> (have hb := hq) <;> (try simp only [dT, dF, eT, eF] at hb) <;> first | (exfalso; omega) | ((try simp only [hq]); clear hq))) <;> (try simp only [go_sem, qa, qb, qc, qd, qe, qf, qg, qh, qi, qj, qk, ql, qm, qn, qo, qp, qq, qr, qs, reduceIte, reduceCtorEq])) | refine Fits.of ?_ ?_ | (refine aL ?_ (fun hp => ?_) <;> ((try simp only [rowSet_fI hp, rowSet_fI2 hp]); (try simp only [rowSet_fB hp]))) | refine aE ?_ fun hp => ?_ | refine aC ?_ fun hp => ?_ | refine And.intro ?_ ?_ | clear hK K | clear hX hY X Y | clear hL L)
    all_goals try omega
    all_goals try (
      have v2 := v1 ((a.knows.length : Int) - 1).toNat (by omega)
      apply Exists.intro (_, _)
      apply And.intro
      rotate_left
      focus (refine SLe.auto hk0 [] ?_; simp only [go_sem, qa, qb, qc, qd, qe, qf, qg, qh, qi, qj, qk, ql, qm, qn, qo, qp, qq, qr, qs, reduceIte, reduceCtorEq, jE1]; first | done | rfl | (repeat' (apply And.intro)) <;> first | rfl | trivial)
      try dsimp only
      omega)
    all_goals try (
      have v2 := v1 x.toNat (by omega)
      apply Exists.intro (_, _)
      apply And.intro
      rotate_left
      focus (refine SLe.auto hk0 [] ?_; simp only [go_sem, qa, qb, qc, qd, qe, qf, qg, qh, qi, qj, qk, ql, qm, qn, qo, qp, qq, qr, qs, reduceIte, reduceCtorEq, jE1]; first | done | rfl | (repeat' (apply And.intro)) <;> first | rfl | trivial)
      try dsimp only
      omega)
    all_goals try (
      apply Exists.intro (_, _)
      apply And.intro
      rotate_left
      focus (refine SLe.auto hk0 [] ?_; simp only [go_sem, qa, qb, qc, qd, qe, qf, qg, qh, qi, qj, qk, ql, qm, qn, qo, qp, qq, qr, qs, reduceIte, reduceCtorEq, jE1]; first | done | rfl | (repeat' (apply And.intro)) <;> first | rfl | trivial)
      try dsimp only
      omega)
    rintro ⟨h, r⟩ ⟨g1, g2, g3, g4⟩
    exact AWp.join _ _ (ev_mid_1 l p a b hl h0 h9 ok1 cx hnt hk0 h r g1 g2 g3 g4) (fun y hy => ev_rest_1 l p a b hl h0 h9 ok1 cx hnt hk0 y.1 y.2 hy.1 hy.2.1 hy.2.2.1 hy.2.2.2)
  · skip
    simp only [go_sem, qa, qb, qc, qd, qe, qf, qg, qh, qi, qj, qk, ql, qm, qn, qo, qp, qq, qr, qs, reduceIte, reduceCtorEq]
    have v1 := knows_in q6
    
    repeat' (first | (refine AWp.join (x := .seq (.region 5 _ _) (.cond _ _ _)) (jE1 l ⟨a, b⟩ b a 10 2 2) (fun x => 0 ≤ x.1 ∧ x.1 ≤ 90 ∧ p ≤ x.2 ∧ x.2 ≤ p + 4) ?_ ?_) | refine AWp.seq fun K hK => ?_ | refine hK _ ?_; clear hK K | refine hX ?_; clear hX hY X Y | refine hY ?_; clear hX hY X Y | refine AWp.block ?_ | refine hL _ _ ?_ | ((first | refine AWp.region tok (by rw [hnt]; rfl) ?_ | refine AWp.cond' fun X Y hX hY => ?_ | refine AWp.skip ?_ | refine AWp.exit ?_ | refine AWp.ret ?_ | refine Fin.auto [] ?_ | refine runS_pick l hl rfl ?_ ?_ ?_ (fun x hx => ?_) | refine AWp.draw (id := 8) tok mixed pl_l71Event_ok0 [20, 21, 8] [0, 6] (by kernel_rfl) (by kernel_rfl) (by rw [hnt]; rfl) ?_ | refine AWp.draw (id := 15) tok mixed pl_l71Event_ok1 [20, 21, 8] [0, 4, 5, 7] (by kernel_rfl) (by kernel_rfl) (by rw [hnt]; rfl) ?_ | refine AWp.draw (id := 18) tok mixed pl_l71Event_ok2 [20, 21, 8] [0, 7] (by kernel_rfl) (by kernel_rfl) (by rw [hnt]; rfl) ?_ | refine AWp.draw (id := 32) tok mixed pl_l71Event_ok3 [20, 21, 8] [0, 7] (by kernel_rfl) (by kernel_rfl) (by rw [hnt]; rfl) ?_ | refine AWp.draw (id := 39) tok mixed pl_l71Event_ok4 [20, 21, 8] [6, 7, 8] (by kernel_rfl) (by kernel_rfl) (by rw [hnt]; rfl) ?_ | refine effS_pick l hl rfl ?_ ?_ ?_ (fun x hx => ?_) | ((first | apply gR | apply gC | apply gT | apply gE) <;> intro hq <;> (try simp only [nT, nF, n1, n0] at hq) <;> (have hb := hq) <;> (try simp only [dT, dF, eT, eF] at hb) <;> first | (exfalso; omega) | ((try simp only [hq]); clear hq))) <;> (try simp only [go_sem, qa, qb, qc, qd, qe, qf, qg, qh, qi, qj, qk, ql, qm, qn, qo, qp, qq, qr, qs, reduceIte, reduceCtorEq])) | refine Fits.of ?_ ?_ | (refine aL ?_ (fun hp => ?_) <;> ((try simp only [rowSet_fI hp, rowSet_fI2 hp]); (try simp only [rowSet_fB hp]))) | refine aE ?_ fun hp => ?_ | refine aC ?_ fun hp => ?_ | refine And.intro ?_ ?_ | clear hK K | clear hX hY X Y | clear hL L)
    all_goals try omega
    all_goals try (
      have v2 := v1 ((b.knows.length : Int) - 1).toNat (by omega)
      apply Exists.intro (_, _)
      apply And.intro
      rotate_left
      focus (refine SLe.auto hk0 [] ?_; simp only [go_sem, qa, qb, qc, qd, qe, qf, qg, qh, qi, qj, qk, ql, qm, qn, qo, qp, qq, qr, qs, reduceIte, reduceCtorEq, jE1]; first | done | rfl | (repeat' (apply And.intro)) <;> first | rfl | trivial)
      try dsimp only
      omega)
    all_goals try (
      have v2 := v1 x.toNat (by omega)
      apply Exists.intro (_, _)
      apply And.intro
      rotate_left
      focus (refine SLe.auto hk0 [] ?_; simp only [go_sem, qa, qb, qc, qd, qe, qf, qg, qh, qi, qj, qk, ql, qm, qn, qo, qp, qq, qr, qs, reduceIte, reduceCtorEq, jE1]; first | done | rfl | (repeat' (apply And.intro)) <;> first | rfl | trivial)
      try dsimp only
      omega)
    all_goals try (
      apply Exists.intro (_, _)
      apply And.intro
      rotate_left
      focus (refine SLe.auto hk0 [] ?_; simp only [go_sem, qa, qb, qc, qd, qe, qf, qg, qh, qi, qj, qk, ql, qm, qn, qo, qp, qq, qr, qs, reduceIte, reduceCtorEq, jE1]; first | done | rfl | (repeat' (apply And.intro)) <;> first | rfl | trivial)
      try dsimp only
      omega)
    rintro ⟨h, r⟩ ⟨g1, g2, g3, g4⟩
    exact AWp.join _ _ (ev_mid_2 l p a b hl h0 h9 ok1 cx hnt hk0 h r g1 g2 g3 g4) (fun y hy => ev_rest_2 l p a b hl h0 h9 ok1 cx hnt hk0 y.1 y.2 hy.1 hy.2.1 hy.2.2.1 hy.2.2.2)
end Go.Hw
/- What is proved: what happens is drawn, with the world behind it. -/
set_option linter.all false
set_option maxRecDepth 100000
set_option maxHeartbeats 8000000
namespace Go.Hw
open Go.Proofs
open Nat renaming reduceDiv → qa, reduceMod → qb, reduceAdd → qc, reduceMul → qd, reduceSub → qe, reduceLeDiff → qf, reduceBEq → qg, reduceEqDiff → qh, reduceBeqDiff → qi, reduceLT → qj
open Int renaming reduceToNat → qk, reduceAdd → ql, reduceSub → qm, reduceNeg → qn, reduceLT → qo, reduceLE → qp, reduceEq → qq, reduceBEq → qr, reduceBNe → qs
open Go.Hw renaming runG_split → gR, condG_split → gC, takG_split → gT, effG_split → gE
def pl_l71Play_ok0 : Plan := (.tak 1 (.tak 2 (.tak 3 (.tak 4 (.all (.cons 0 (.all (.cons 5 (.all (.cons 6 .done .nil)) .nil)) .nil))))))
attribute [go_sem] pl_l71Play_ok0
def jP1 (l : List Int) (es : List Event) (r : Int) (x : Nat × Two) : St := ⟨[(0, .o (.c (.ptr 0 0 0 0))), (3, .o (.c (.ptr 1 0 0 0))), (4, .o (.c (.ptr 2 0 0 0))), (5, .o (.c (.sl 3 11 0 es.length))), (6, .o (I x.1))], rdH l r 0 ++ ((1, .box [.t (.v (.slice none 0 0))]) :: (2, .box (worldA 4)) :: (3, rE es) :: worldH x.2 4), 21⟩
def jP2 (l : List Int) (x : Nat × Two × List Event × Int) : St := ⟨[(0, .o (.c (.ptr 0 0 0 0))), (3, .o (.c (.ptr 1 0 0 0))), (4, .o (.c (.ptr 2 0 0 0))), (5, .o (.c (.sl 3 11 0 x.2.2.1.length))), (7, .o (I x.1))], rdH l x.2.2.2 0 ++ ((1, .box [.t (.v (.slice none 0 0))]) :: (2, .box (worldA 4)) :: (3, rE x.2.2.1) :: worldH x.2.1 4), 21⟩
attribute [go_sem] jP1 jP2
theorem l71Play_ok (l : List Int) (p : Int) (hl : Bytes l) (h0 : 0 ≤ p) (h9 : p ≤ 4000) : CallX (α := Two × List Event × Int) Tryz.prog 35 [.c (.ptr 0 0 0 0)] (rdH l p 0) 1 (fun x => wOk x.1.list = true ∧ x.2.1.length ≤ 60 ∧ p ≤ x.2.2 ∧ x.2.2 ≤ p + 3000) (fun x => .tup [.c (.sl 1 11 0 x.2.1.length), .g (worldA 2)]) (fun x => rdH l x.2.2 0 ++ ((1, rE x.2.1) :: worldH x.1 2)) 19 := by
  refine CallX.of tok Tryz.func35 rfl rfl Tryz.ntmps35 Tryz.results35 rfl (by decide) (fun cx hnt hk0 => ?_)
  repeat' (first | refine AWp.seq fun K hK => ?_ | refine hK _ ?_; clear hK K | refine hX ?_; clear hX hY X Y | refine hY ?_; clear hX hY X Y | refine AWp.block ?_ | refine hL _ _ ?_ | ((first | refine AWp.region tok (by rw [hnt]; rfl) ?_ | refine AWp.cond' fun X Y hX hY => ?_ | refine AWp.skip ?_ | refine AWp.exit ?_ | refine AWp.ret ?_ | refine Fin.auto [] ?_ | refine runS_c [] (WorldNew_ok) rfl ?_ ?_ ?_ | refine runS_at [_] (l71Open_ok l p hl h0 (by omega)) rfl ?_ ?_ (fun y hy => ?_) | refine AWp.draw (id := 6) tok mixed pl_l71Play_ok0 [] [4, 5, 6] (by kernel_rfl) (by kernel_rfl) (by rw [hnt]; rfl) ?_ | refine AWp.draw (id := 13) tok mixed (.tak 0 (.tak 1 (.tak 2 (.all (.cons 3 .done .nil))))) [] [3, 4, 5] (by kernel_rfl) (by kernel_rfl) (by rw [hnt]; rfl) ?_ | refine effS_c [] (WorldNew_ok) rfl ?_ ?_ ?_ | refine effS_at [_] (l71Open_ok l p hl h0 (by omega)) rfl ?_ ?_ (fun y hy => ?_) | ((first | apply gR | apply gC | apply gT | apply gE) <;> intro hq <;> (try simp only [nT, nF, n1, n0] at hq) <;> (have hb := hq) <;> (try simp only [dT, dF, eT, eF] at hb) <;> first | (exfalso; omega) | ((try simp only [hq]); clear hq))) <;> (try simp only [go_sem, qa, qb, qc, qd, qe, qf, qg, qh, qi, qj, qk, ql, qm, qn, qo, qp, qq, qr, qs, reduceIte, reduceCtorEq])) | refine Fits.of ?_ ?_ | (refine aL ?_ (fun hp => ?_) <;> ((try simp only [rowSet_fI hp, rowSet_fI2 hp]); (try simp only [rowSet_fB hp]))) | refine aE ?_ fun hp => ?_ | refine aC ?_ fun hp => ?_ | refine And.intro ?_ ?_ | clear hK K | clear hX hY X Y | clear hL L)
  all_goals try omega
  obtain ⟨es, r⟩ := y
  obtain ⟨hy1, hy2, hy3⟩ := hy
  simp only [] at hy1 hy2 hy3
  refine AWp.loop (jP1 l es r) (fun x => x.1 ≤ es.length ∧ wOk x.2.list = true) (fun x => es.length - x.1) (0, Two.new) ⟨Nat.zero_le _, two_new_wOk⟩ ?_ ?_
  · refine SLe.auto hk0 [] ?_; simp only [go_sem, qa, qb, qc, qd, qe, qf, qg, qh, qi, qj, qk, ql, qm, qn, qo, qp, qq, qr, qs, reduceIte, reduceCtorEq]
    all_goals simp
  rintro ⟨i, w⟩ ⟨hi, hw⟩
  simp only [] at hi hw
  have hw2 := two_on_wOk (e := es.getD i default) hw
  obtain ⟨o1, o2, _⟩ := wOk_iff.1 hw
  simp only [go_sem, qa, qb, qc, qd, qe, qf, qg, qh, qi, qj, qk, ql, qm, qn, qo, qp, qq, qr, qs, reduceIte, reduceCtorEq]
  
  repeat' (first | refine AWp.seq fun K hK => ?_ | refine hK _ ?_; clear hK K | refine hX ?_; clear hX hY X Y | refine hY ?_; clear hX hY X Y | refine AWp.block ?_ | refine hL _ _ ?_ | ((first | refine AWp.region tok (by rw [hnt]; rfl) ?_ | refine AWp.cond' fun X Y hX hY => ?_ | refine AWp.skip ?_ | refine AWp.exit ?_ | refine AWp.ret ?_ | refine Fin.auto [] ?_ | refine runS_c [4, 5, 6, 7, 8, 9, 10, 11, 12, 13, 14, 15, 16, 17, 18, 19, 20] (l21Do_ok w (es.getD i default) o1 o2) rfl ?_ ?_ ?_ | refine runS_pick l hl rfl ?_ ?_ ?_ (fun x hx => ?_) | refine AWp.draw (id := 6) tok mixed pl_l71Play_ok0 [3] [4, 5, 6] (by kernel_rfl) (by kernel_rfl) (by rw [hnt]; rfl) ?_ | refine AWp.draw (id := 13) tok mixed (.tak 0 (.tak 1 (.tak 2 (.all (.cons 3 .done .nil))))) [3] [3, 4, 5] (by kernel_rfl) (by kernel_rfl) (by rw [hnt]; rfl) ?_ | refine effS_c [4, 5, 6, 7, 8, 9, 10, 11, 12, 13, 14, 15, 16, 17, 18, 19, 20] (l21Do_ok w (es.getD i default) o1 o2) rfl ?_ ?_ ?_ | refine effS_pick l hl rfl ?_ ?_ ?_ (fun x hx => ?_) | refine SLe.auto hk0 [] ?_ | ((first | apply gR | apply gC | apply gT | apply gE) <;> intro hq <;> (try simp only [nT, nF, n1, n0] at hq) <;> (have hb := hq) <;> (try simp only [dT, dF, eT, eF] at hb) <;> first | (exfalso; omega) | ((try simp only [hq]); clear hq))) <;> (try simp only [go_sem, qa, qb, qc, qd, qe, qf, qg, qh, qi, qj, qk, ql, qm, qn, qo, qp, qq, qr, qs, reduceIte, reduceCtorEq])) | (refine ⟨(i + 1, w.on (es.getD i default)), ?_, ?_, ?_⟩) | refine Fits.of ?_ ?_ | (refine aL ?_ (fun hp => ?_) <;> ((try simp only [rowSet_fI hp, rowSet_fI2 hp]); (try simp only [rowSet_fB hp]))) | refine aE ?_ fun hp => ?_ | refine aC ?_ fun hp => ?_ | refine And.intro ?_ ?_ | clear hK K | clear hX hY X Y | clear hL L)
  all_goals try (first | omega | (simp only [decide_eq_true_eq, decide_eq_false_iff_not, decide_eq_decide]; omega))
  all_goals try (exact ⟨by dsimp only; omega, hw2⟩)
  obtain ⟨n0, rfl⟩ : ∃ n : Nat, x = n := ⟨x.toNat, by omega⟩
  refine AWp.loop (jP2 l) (fun x => x.1 ≤ 48 ∧ wOk x.2.1.list = true ∧ x.2.2.1.length + x.1 ≤ 58 ∧ p ≤ x.2.2.2 ∧ x.2.2.2 + 40 * x.1 ≤ p + 2000) (fun x => x.1) (n0, w, es, r + 1) ⟨by dsimp only; omega, hw, by dsimp only; omega, by dsimp only; omega, by dsimp only; omega⟩ ?_ ?_
  · refine SLe.auto hk0 [] ?_; simp only [go_sem, qa, qb, qc, qd, qe, qf, qg, qh, qi, qj, qk, ql, qm, qn, qo, qp, qq, qr, qs, reduceIte, reduceCtorEq]
    all_goals first | rfl | simp | skip
  clear hy1 hy2 hy3 hi hw hw2 o1 o2
  rintro ⟨n, w, es, r⟩ ⟨g1, hw, g2, g3, g4⟩
  simp only [] at g1 hw g2 g3 g4
  have hw2 := fun e => two_on_wOk (e := e) hw
  obtain ⟨o1, o2, _⟩ := wOk_iff.1 hw
  simp only [go_sem, qa, qb, qc, qd, qe, qf, qg, qh, qi, qj, qk, ql, qm, qn, qo, qp, qq, qr, qs, reduceIte, reduceCtorEq]
  
  repeat' (first | refine AWp.seq fun K hK => ?_ | refine hK _ ?_; clear hK K | refine hX ?_; clear hX hY X Y | refine hY ?_; clear hX hY X Y | refine AWp.block ?_ | refine hL _ _ ?_ | ((first | refine AWp.region tok (by rw [hnt]; rfl) ?_ | refine AWp.cond' fun X Y hX hY => ?_ | refine AWp.skip ?_ | refine AWp.exit ?_ | refine AWp.ret ?_ | refine Fin.auto [] ?_ | refine runS_c [4, 5, 6, 7, 8, 9, 10, 11, 12, 13, 14, 15, 16, 17, 18, 19, 20] (l21Do_ok w y.1 o1 o2) rfl ?_ ?_ ?_ | refine runS_at [0, 4, 5, 6, 7, 8, 9, 10, 11, 12, 13, 14, 15, 16, 17, 18, 19, 20] (l71Event_ok l r w hl (by omega) (by omega) hw) rfl ?_ ?_ (fun y hy => ?_) | refine AWp.draw (id := 6) tok mixed pl_l71Play_ok0 [2] [4, 5, 6] (by kernel_rfl) (by kernel_rfl) (by rw [hnt]; rfl) ?_ | refine AWp.draw (id := 13) tok mixed (.tak 0 (.tak 1 (.tak 2 (.all (.cons 3 .done .nil))))) [2] [3, 4, 5] (by kernel_rfl) (by kernel_rfl) (by rw [hnt]; rfl) ?_ | refine effS_c [4, 5, 6, 7, 8, 9, 10, 11, 12, 13, 14, 15, 16, 17, 18, 19, 20] (l21Do_ok w y.1 o1 o2) rfl ?_ ?_ ?_ | refine effS_at [0, 4, 5, 6, 7, 8, 9, 10, 11, 12, 13, 14, 15, 16, 17, 18, 19, 20] (l71Event_ok l r w hl (by omega) (by omega) hw) rfl ?_ ?_ (fun y hy => ?_) | refine SLe.auto hk0 [] ?_ | ((first | apply gR | apply gC | apply gT | apply gE) <;> intro hq <;> (try simp only [nT, nF, n1, n0] at hq) <;> (have hb := hq) <;> (try simp only [dT, dF, eT, eF] at hb) <;> first | (exfalso; omega) | ((try simp only [hq]); clear hq))) <;> (try simp only [go_sem, qa, qb, qc, qd, qe, qf, qg, qh, qi, qj, qk, ql, qm, qn, qo, qp, qq, qr, qs, reduceIte, reduceCtorEq])) | (refine ⟨(n - 1, w.on y.1, es ++ (.cons y.1 .nil), y.2), ?_, ?_, ?_⟩) | refine Fits.of ?_ ?_ | (refine aL ?_ (fun hp => ?_) <;> ((try simp only [rowSet_fI hp, rowSet_fI2 hp]); (try simp only [rowSet_fB hp]))) | refine aE ?_ fun hp => ?_ | refine aC ?_ fun hp => ?_ | refine And.intro ?_ ?_ | clear hK K | clear hX hY X Y | clear hL L)
  all_goals try (first | omega | (simp only [decide_eq_true_eq, decide_eq_false_iff_not, decide_eq_decide]; omega))
  all_goals try (
    refine ⟨(w, es, r), ⟨hw, by dsimp only; omega, by dsimp only; omega, by dsimp only; omega⟩, ?_⟩
    refine Fin.auto [] ?_
    simp only [go_sem, qa, qb, qc, qd, qe, qf, qg, qh, qi, qj, qk, ql, qm, qn, qo, qp, qq, qr, qs, reduceIte, reduceCtorEq]
    done)
  all_goals try (exact ⟨by dsimp only; omega, hw2 _, by simp; omega, by dsimp only; omega, by dsimp only; omega⟩)
  all_goals try exact hw2 _
  all_goals (simp only [List.length_append, List.length_cons, List.length_nil] at *; omega)
end Go.Hw
/- What is proved: a play is drawn. -/
set_option linter.all false
set_option maxRecDepth 100000
set_option maxHeartbeats 8000000
namespace Go.Hw
open Go.Proofs
open Nat renaming reduceDiv → qa, reduceMod → qb, reduceAdd → qc, reduceMul → qd, reduceSub → qe, reduceLeDiff → qf, reduceBEq → qg, reduceEqDiff → qh, reduceBeqDiff → qi, reduceLT → qj
open Int renaming reduceToNat → qk, reduceAdd → ql, reduceSub → qm, reduceNeg → qn, reduceLT → qo, reduceLE → qp, reduceEq → qq, reduceBEq → qr, reduceBNe → qs
open Go.Hw renaming runG_split → gR, condG_split → gC, takG_split → gT, effG_split → gE
def evB : Event := ⟨1, 1, 0, 0, ⟨0, 0, 0, 0, 0, 0, 0⟩⟩
def jD (n : List Event) : St := ⟨[(4, .o (.c (.sl 0 11 0 n.length)))], [(0, rE n)], 1⟩
attribute [go_sem] jD
theorem DrawWorldPlay_short (l : List Int) (hl : Bytes l) : CallX (α := List Event) Tryz.prog 19 [.c (.t (bytesT l))] [] 0 (fun es => es.length ≤ 61) (fun es => .o (.c (.t (eventsT es)))) (fun _ => []) 0 := by
  refine CallX.of tok Tryz.func19 rfl rfl Tryz.ntmps19 Tryz.results19 rfl (by decide) (fun cx hnt hk0 => ?_)
  repeat' (first | refine AWp.seq fun K hK => ?_ | refine hK _ ?_; clear hK K | refine hX ?_; clear hX hY X Y | refine hY ?_; clear hX hY X Y | refine AWp.block ?_ | refine hL _ _ ?_ | ((first | refine AWp.region tok (by rw [hnt]; rfl) ?_ | refine AWp.cond' fun X Y hX hY => ?_ | refine AWp.skip ?_ | refine AWp.exit ?_ | refine AWp.ret ?_ | refine Fin.auto [] ?_ | refine runS_c [] (l6Open_ok l hl.1) rfl ?_ ?_ ?_ | refine runS_at [_] (l71Play_ok l 0 hl (by omega) (by omega)) rfl ?_ ?_ (fun y hy => ?_) | refine runS_pick l hl rfl ?_ ?_ ?_ (fun x hx => ?_) | ((first | apply gR | apply gC) <;> intro hq <;> (try simp only [nT, nF, n1, n0] at hq) <;> (have hb := hq) <;> (try simp only [dT, dF, eT, eF] at hb) <;> first | (exfalso; omega) | ((try simp only [hq]); clear hq))) <;> (try simp only [go_sem, qa, qb, qc, qd, qe, qf, qg, qh, qi, qj, qk, ql, qm, qn, qo, qp, qq, qr, qs, reduceIte, reduceCtorEq])) | refine Fits.of ?_ ?_ | (refine aL ?_ (fun hp => ?_) <;> ((try simp only [rowSet_fI hp, rowSet_fI2 hp]); (try simp only [rowSet_fB hp]))) | refine aE ?_ fun hp => ?_ | refine aC ?_ fun hp => ?_ | refine And.intro ?_ ?_ | clear hK K | clear hX hY X Y | clear hL L)
  all_goals try omega
  rotate_left
  · refine ⟨y.2.1, by omega, ?_⟩
    refine Fin.auto [1] ?_
    simp only [go_sem, qa, qb, qc, qd, qe, qf, qg, qh, qi, qj, qk, ql, qm, qn, qo, qp, qq, qr, qs, reduceIte, reduceCtorEq]
  refine AWp.loop jD (fun es => es.length ≤ 61) (fun es => 61 - es.length) y.2.1 (by omega) ?_ ?_
  · refine SLe.auto hk0 [] ?_; simp only [go_sem, qa, qb, qc, qd, qe, qf, qg, qh, qi, qj, qk, ql, qm, qn, qo, qp, qq, qr, qs, reduceIte, reduceCtorEq]
  intro es hi
  simp only [go_sem, qa, qb, qc, qd, qe, qf, qg, qh, qi, qj, qk, ql, qm, qn, qo, qp, qq, qr, qs, reduceIte, reduceCtorEq]
  by_cases hlt : (es.length : Int) ≤ 60
  · repeat' (first | refine AWp.seq fun K hK => ?_ | refine hK _ ?_; clear hK K | refine hX ?_; clear hX hY X Y | refine hY ?_; clear hX hY X Y | refine AWp.block ?_ | refine hL _ _ ?_ | ((first | refine AWp.region tok (by rw [hnt]; rfl) ?_ | refine AWp.cond' fun X Y hX hY => ?_ | refine AWp.skip ?_ | refine AWp.exit ?_ | refine AWp.ret ?_ | refine Fin.auto [] ?_ | refine SLe.auto hk0 [] ?_ | ((first | apply gR | apply gC) <;> intro hq <;> (try simp only [nT, nF, n1, n0] at hq) <;> (have hb := hq) <;> (try simp only [dT, dF, eT, eF] at hb) <;> first | (exfalso; omega) | ((try simp only [hq]); clear hq))) <;> (try simp only [go_sem, qa, qb, qc, qd, qe, qf, qg, qh, qi, qj, qk, ql, qm, qn, qo, qp, qq, qr, qs, reduceIte, reduceCtorEq])) | refine ⟨es ++ (.cons evB .nil), ?_, ?_, ?_⟩ | refine Fits.of ?_ ?_ | (refine aL ?_ (fun hp => ?_) <;> ((try simp only [rowSet_fI hp, rowSet_fI2 hp]); (try simp only [rowSet_fB hp]))) | refine aE ?_ fun hp => ?_ | refine aC ?_ fun hp => ?_ | refine And.intro ?_ ?_ | clear hK K | clear hX hY X Y | clear hL L)
    all_goals try (first | omega | (simp only [decide_eq_true_eq, decide_eq_false_iff_not, decide_eq_decide]; omega))
    all_goals try (unfold evB; simp only [go_sem]; done)
    all_goals try (simp [evB]; done)
    all_goals try (simp [evB]; omega)
  · repeat' (first | refine AWp.seq fun K hK => ?_ | refine hK _ ?_; clear hK K | refine hX ?_; clear hX hY X Y | refine hY ?_; clear hX hY X Y | refine AWp.block ?_ | refine hL _ _ ?_ | ((first | refine AWp.region tok (by rw [hnt]; rfl) ?_ | refine AWp.cond' fun X Y hX hY => ?_ | refine AWp.skip ?_ | refine AWp.exit ?_ | refine AWp.ret ?_ | refine Fin.auto [] ?_ | ((first | apply gR | apply gC) <;> intro hq <;> (try simp only [nT, nF, n1, n0] at hq) <;> (have hb := hq) <;> (try simp only [dT, dF, eT, eF] at hb) <;> first | (exfalso; omega) | ((try simp only [hq]); clear hq))) <;> (try simp only [go_sem, qa, qb, qc, qd, qe, qf, qg, qh, qi, qj, qk, ql, qm, qn, qo, qp, qq, qr, qs, reduceIte, reduceCtorEq])) | refine Fits.of ?_ ?_ | (refine aL ?_ (fun hp => ?_) <;> ((try simp only [rowSet_fI hp, rowSet_fI2 hp]); (try simp only [rowSet_fB hp]))) | refine aE ?_ fun hp => ?_ | refine aC ?_ fun hp => ?_ | refine And.intro ?_ ?_ | clear hK K | clear hX hY X Y | clear hL L)
    all_goals try (exfalso; omega)
    all_goals try (
      refine ⟨es, hi, ?_⟩
      refine Fin.auto [0] ?_
      simp only [go_sem, qa, qb, qc, qd, qe, qf, qg, qh, qi, qj, qk, ql, qm, qn, qo, qp, qq, qr, qs, reduceIte, reduceCtorEq])
theorem DrawWorldPlay_long (l : List Int) (hl : Bytes (l.take 2000)) (h1 : 2000 < l.length) (h2 : (l.length : Int) ≤ 1048576) : CallX (α := List Event) Tryz.prog 19 [.c (.t (bytesT l))] [] 0 (fun es => es.length ≤ 61) (fun es => .o (.c (.t (eventsT es)))) (fun _ => []) 0 := by
  refine CallX.of tok Tryz.func19 rfl rfl Tryz.ntmps19 Tryz.results19 rfl (by decide) (fun cx hnt hk0 => ?_)
  repeat' (first | refine AWp.seq fun K hK => ?_ | refine hK _ ?_; clear hK K | refine hX ?_; clear hX hY X Y | refine hY ?_; clear hX hY X Y | refine AWp.block ?_ | refine hL _ _ ?_ | ((first | refine AWp.region tok (by rw [hnt]; rfl) ?_ | refine AWp.cond' fun X Y hX hY => ?_ | refine AWp.skip ?_ | refine AWp.exit ?_ | refine AWp.ret ?_ | refine Fin.auto [] ?_ | refine runS_c [] (l6Open_long l h1 h2) rfl ?_ ?_ ?_ | refine runS_at [_] (l71Play_ok (l.take 2000) 0 hl (by omega) (by omega)) rfl ?_ ?_ (fun y hy => ?_) | refine runS_pick (l.take 2000) hl rfl ?_ ?_ ?_ (fun x hx => ?_) | ((first | apply gR | apply gC) <;> intro hq <;> (try simp only [nT, nF, n1, n0] at hq) <;> (have hb := hq) <;> (try simp only [dT, dF, eT, eF] at hb) <;> first | (exfalso; omega) | ((try simp only [hq]); clear hq))) <;> (try simp only [go_sem, qa, qb, qc, qd, qe, qf, qg, qh, qi, qj, qk, ql, qm, qn, qo, qp, qq, qr, qs, reduceIte, reduceCtorEq])) | refine Fits.of ?_ ?_ | (refine aL ?_ (fun hp => ?_) <;> ((try simp only [rowSet_fI hp, rowSet_fI2 hp]); (try simp only [rowSet_fB hp]))) | refine aE ?_ fun hp => ?_ | refine aC ?_ fun hp => ?_ | refine And.intro ?_ ?_ | clear hK K | clear hX hY X Y | clear hL L)
  all_goals try omega
  rotate_left
  · refine ⟨y.2.1, by omega, ?_⟩
    refine Fin.auto [1] ?_
    simp only [go_sem, qa, qb, qc, qd, qe, qf, qg, qh, qi, qj, qk, ql, qm, qn, qo, qp, qq, qr, qs, reduceIte, reduceCtorEq]
  refine AWp.loop jD (fun es => es.length ≤ 61) (fun es => 61 - es.length) y.2.1 (by omega) ?_ ?_
  · refine SLe.auto hk0 [] ?_; simp only [go_sem, qa, qb, qc, qd, qe, qf, qg, qh, qi, qj, qk, ql, qm, qn, qo, qp, qq, qr, qs, reduceIte, reduceCtorEq]
  intro es hi
  simp only [go_sem, qa, qb, qc, qd, qe, qf, qg, qh, qi, qj, qk, ql, qm, qn, qo, qp, qq, qr, qs, reduceIte, reduceCtorEq]
  by_cases hlt : (es.length : Int) ≤ 60
  · repeat' (first | refine AWp.seq fun K hK => ?_ | refine hK _ ?_; clear hK K | refine hX ?_; clear hX hY X Y | refine hY ?_; clear hX hY X Y | refine AWp.block ?_ | refine hL _ _ ?_ | ((first | refine AWp.region tok (by rw [hnt]; rfl) ?_ | refine AWp.cond' fun X Y hX hY => ?_ | refine AWp.skip ?_ | refine AWp.exit ?_ | refine AWp.ret ?_ | refine Fin.auto [] ?_ | refine SLe.auto hk0 [] ?_ | ((first | apply gR | apply gC) <;> intro hq <;> (try simp only [nT, nF, n1, n0] at hq) <;> (have hb := hq) <;> (try simp only [dT, dF, eT, eF] at hb) <;> first | (exfalso; omega) | ((try simp only [hq]); clear hq))) <;> (try simp only [go_sem, qa, qb, qc, qd, qe, qf, qg, qh, qi, qj, qk, ql, qm, qn, qo, qp, qq, qr, qs, reduceIte, reduceCtorEq])) | refine ⟨es ++ (.cons evB .nil), ?_, ?_, ?_⟩ | refine Fits.of ?_ ?_ | (refine aL ?_ (fun hp => ?_) <;> ((try simp only [rowSet_fI hp, rowSet_fI2 hp]); (try simp only [rowSet_fB hp]))) | refine aE ?_ fun hp => ?_ | refine aC ?_ fun hp => ?_ | refine And.intro ?_ ?_ | clear hK K | clear hX hY X Y | clear hL L)
    all_goals try (first | omega | (simp only [decide_eq_true_eq, decide_eq_false_iff_not, decide_eq_decide]; omega))
    all_goals try (unfold evB; simp only [go_sem]; done)
    all_goals try (simp [evB]; done)
    all_goals try (simp [evB]; omega)
  · repeat' (first | refine AWp.seq fun K hK => ?_ | refine hK _ ?_; clear hK K | refine hX ?_; clear hX hY X Y | refine hY ?_; clear hX hY X Y | refine AWp.block ?_ | refine hL _ _ ?_ | ((first | refine AWp.region tok (by rw [hnt]; rfl) ?_ | refine AWp.cond' fun X Y hX hY => ?_ | refine AWp.skip ?_ | refine AWp.exit ?_ | refine AWp.ret ?_ | refine Fin.auto [] ?_ | ((first | apply gR | apply gC) <;> intro hq <;> (try simp only [nT, nF, n1, n0] at hq) <;> (have hb := hq) <;> (try simp only [dT, dF, eT, eF] at hb) <;> first | (exfalso; omega) | ((try simp only [hq]); clear hq))) <;> (try simp only [go_sem, qa, qb, qc, qd, qe, qf, qg, qh, qi, qj, qk, ql, qm, qn, qo, qp, qq, qr, qs, reduceIte, reduceCtorEq])) | refine Fits.of ?_ ?_ | (refine aL ?_ (fun hp => ?_) <;> ((try simp only [rowSet_fI hp, rowSet_fI2 hp]); (try simp only [rowSet_fB hp]))) | refine aE ?_ fun hp => ?_ | refine aC ?_ fun hp => ?_ | refine And.intro ?_ ?_ | clear hK K | clear hX hY X Y | clear hL L)
    all_goals try (exfalso; omega)
    all_goals try (
      refine ⟨es, hi, ?_⟩
      refine Fin.auto [0] ?_
      simp only [go_sem, qa, qb, qc, qd, qe, qf, qg, qh, qi, qj, qk, ql, qm, qn, qo, qp, qq, qr, qs, reduceIte, reduceCtorEq])
theorem bytes_take {l : List Int} (hb : ∀ i, 0 ≤ l.getD i 0 ∧ l.getD i 0 ≤ 255) : Bytes (l.take 2000) := by
  refine ⟨by rw [List.length_take]; omega, fun i => ?_⟩
  by_cases hi : i < 2000
  · have : (l.take 2000).getD i 0 = l.getD i 0 := by unfold List.getD; rw [List.getElem?_take, if_pos hi]
    rw [this]; exact hb i
  · have : (l.take 2000).getD i 0 = 0 := by unfold List.getD; rw [List.getElem?_take, if_neg hi]; rfl
    rw [this]; decide
theorem DrawWorldPlay_ok (l : List Int) (hb : ∀ i, 0 ≤ l.getD i 0 ∧ l.getD i 0 ≤ 255) (h2 : (l.length : Int) ≤ 1048576) : CallX (α := List Event) Tryz.prog 19 [.c (.t (bytesT l))] [] 0 (fun es => es.length ≤ 61) (fun es => .o (.c (.t (eventsT es)))) (fun _ => []) 0 := by
  by_cases h : l.length ≤ 2000
  · exact DrawWorldPlay_short l ⟨h, hb⟩
  · exact DrawWorldPlay_long l (bytes_take hb) (by omega) h2
end Go.Hw
