/- What is proved here: parts W58 of the walk of the law and of its plain side; no condition but those that each theorem states. -/
import Derived.Test.YtcbceacjhmblnaaGreatE9
import Derived.Test.YtcbceacjhmblnaaGreatE10
import Derived.Test.YtcbceacjhmblnaaGreatB5
/- What is proved: how a run begins, how it is handed over, and what the program's WorldPlay gives. -/
set_option linter.all false
set_option maxRecDepth 100000
set_option maxHeartbeats 8000000
namespace Go.Hw
open Go.Proofs
open Nat renaming reduceDiv → qa, reduceMod → qb, reduceAdd → qc, reduceMul → qd, reduceSub → qe, reduceLeDiff → qf, reduceBEq → qg, reduceEqDiff → qh, reduceBeqDiff → qi, reduceLT → qj
open Int renaming reduceToNat → qk, reduceAdd → ql, reduceSub → qm, reduceNeg → qn, reduceLT → qo, reduceLE → qp, reduceEq → qq, reduceBEq → qr, reduceBNe → qs
open Go.Hw renaming runG_split → gR, condG_split → gC, takG_split → gT, effG_split → gE
def pl_do_no0 : Plan := (.tak 0 (.tak 1 (.tak 2 (.tak 3 (.tak 5 (.tak 6 (.all (.cons 4 (.tak 7 (.all (.cons 8 .done .nil))) .nil))))))))
attribute [go_sem] pl_do_no0
def pl_do_no1 : Plan := (.tak 0 (.tak 1 (.tak 2 (.tak 3 (.tak 4 (.tak 5 (.tak 6 (.tak 7 (.tak 8 (.tak 9 (.tak 10 (.tak 11 (.tak 12 (.tak 13 (.tak 14 (.tak 15 (.tak 17 (.tak 18 (.tak 19 (.tak 20 (.all (.cons 16 (.all (.cons 21 (.all (.cons 22 (.all (.cons 23 .done .nil)) .nil)) (.cons 22 (.all (.cons 21 (.all (.cons 23 .done .nil)) .nil)) .nil))) (.cons 22 (.all (.cons 16 (.all (.cons 21 (.all (.cons 23 .done .nil)) .nil)) .nil)) .nil)))))))))))))))))))))))
attribute [go_sem] pl_do_no1
def pl_do_no2 : Plan := (.tak 0 (.tak 1 (.tak 2 (.tak 3 (.tak 4 (.tak 5 (.tak 6 (.tak 7 (.all (.cons 8 .done .nil))))))))))
attribute [go_sem] pl_do_no2
def pl_do_no3 : Plan := (.tak 0 (.tak 1 (.tak 2 (.tak 3 (.all (.cons 4 (.tak 5 (.all (.cons 6 .done .nil))) .nil))))))
attribute [go_sem] pl_do_no3
theorem do_no (a b : Chain) (e : Event) (hch : In e.chain 1 2 = false) : Call Tryz.prog 38 [.c (.ptr 0 0 0 0), e.av] (pairH ⟨a, b⟩ 3 10) 17 (.tup []) (pairH ⟨a, b⟩ 17 24) 31 := by
  have cE := chainOk_ok e.chain
  rw [hch] at cE
  refine CallX.of tok Tryz.func38 rfl rfl Tryz.ntmps38 Tryz.results38 rfl (by decide) (fun cx hnt hk0 => ?_)
  repeat' (first | refine AWp.seq fun K hK => ?_ | refine hK _ ?_; clear hK K | refine hX ?_; clear hX hY X Y | refine hY ?_; clear hX hY X Y | refine AWp.block ?_ | refine hL _ _ ?_ | ((first | refine AWp.region tok (by rw [hnt]; rfl) ?_ | refine AWp.cond' fun X Y hX hY => ?_ | refine AWp.skip ?_ | refine AWp.exit ?_ | refine AWp.ret ?_ | refine Fin.auto [] ?_ | refine runS_c [] (cE) rfl ?_ ?_ ?_ | refine AWp.draw (id := 11) tok mixed (.tak 0 (.tak 1 (.tak 2 (.tak 3 (.tak 4 (.tak 5 (.tak 6 (.tak 7 (.tak 8 (.tak 9 (.tak 10 (.tak 11 (.tak 12 (.tak 13 (.tak 14 (.tak 15 (.all (.cons 16 (.tak 17 (.tak 18 (.tak 19 (.all (.cons 20 (.all (.cons 21 (.tak 22 .done) .nil)) .nil))))) (.cons 20 (.all (.cons 16 (.tak 17 (.tak 18 (.tak 19 (.all (.cons 21 (.tak 22 .done) .nil))))) .nil)) .nil))))))))))))))))))) [] [3, 4] (by kernel_rfl) (by kernel_rfl) (by rw [hnt]; rfl) ?_ | refine effS_c [] (cE) rfl ?_ ?_ ?_ | ((first | apply gR | apply gC | apply gT | apply gE) <;> intro hq <;> (try simp only [nT, nF, n1, n0] at hq) <;> (have hb := hq) <;> (try simp only [dT, dF, eT, eF] at hb) <;> first | (exfalso; omega) | ((try simp only [hq]); clear hq))) <;> (try simp only [go_sem, qa, qb, qc, qd, qe, qf, qg, qh, qi, qj, qk, ql, qm, qn, qo, qp, qq, qr, qs, reduceIte, reduceCtorEq])) | refine Fits.of ?_ ?_ | (refine aL ?_ (fun hp => ?_) <;> ((try simp only [rowSet_fI hp, rowSet_fI2 hp]); (try simp only [rowSet_fB hp]))) | refine aE ?_ fun hp => ?_ | refine aC ?_ fun hp => ?_ | refine And.intro ?_ ?_ | clear hK K | clear hX hY X Y | clear hL L)
theorem do_ok (w : Two) (e : Event) (ok1 : wOk w.list = true) : Call Tryz.prog 38 [.c (.ptr 0 0 0 0), e.av] (pairH w 3 10) 17 (.tup []) (pairH (w.on e) 17 24) 31 := by
  obtain ⟨a, b⟩ := w
  unfold Two.on
  by_cases h1 : e.chain = 1
  · rw [if_pos h1]; exact do1_ok a b e ok1 h1
  by_cases h2 : e.chain = 2
  · rw [if_neg h1, if_pos h2]; exact do2_ok a b e ok1 h2
  rw [if_neg h1, if_neg h2]
  exact do_no a b e (In12_no h1 h2)
theorem pairNew_ok : Call Tryz.prog 37 [] [] 0 (.o (.c (.ptr 0 0 0 0))) (pairH Two.new 3 10) 17 := by
  refine CallX.of tok Tryz.func37 rfl rfl Tryz.ntmps37 Tryz.results37 rfl (by decide) (fun cx hnt hk0 => ?_)
  repeat' (first | refine AWp.seq fun K hK => ?_ | refine hK _ ?_; clear hK K | refine hX ?_; clear hX hY X Y | refine hY ?_; clear hX hY X Y | refine AWp.block ?_ | refine hL _ _ ?_ | ((first | refine AWp.region tok (by rw [hnt]; rfl) ?_ | refine AWp.cond' fun X Y hX hY => ?_ | refine AWp.skip ?_ | refine AWp.exit ?_ | refine AWp.ret ?_ | refine Fin.auto [] ?_ | refine AWp.draw (id := 5) tok mixed pl_do_no0 [] [1, 2] (by kernel_rfl) (by kernel_rfl) (by rw [hnt]; rfl) ?_ | ((first | apply gR | apply gC | apply gT | apply gE) <;> intro hq <;> (try simp only [nT, nF, n1, n0] at hq) <;> (have hb := hq) <;> (try simp only [dT, dF, eT, eF] at hb) <;> first | (exfalso; omega) | ((try simp only [hq]); clear hq))) <;> (try simp only [go_sem, qa, qb, qc, qd, qe, qf, qg, qh, qi, qj, qk, ql, qm, qn, qo, qp, qq, qr, qs, reduceIte, reduceCtorEq])) | refine Fits.of ?_ ?_ | (refine aL ?_ (fun hp => ?_) <;> ((try simp only [rowSet_fI hp, rowSet_fI2 hp]); (try simp only [rowSet_fB hp]))) | refine aE ?_ fun hp => ?_ | refine aC ?_ fun hp => ?_ | refine And.intro ?_ ?_ | clear hK K | clear hX hY X Y | clear hL L)
  all_goals refine AWp.loopN 3 fun L hL => ?_
  repeat' (first | refine AWp.seq fun K hK => ?_ | refine hK _ ?_; clear hK K | refine hX ?_; clear hX hY X Y | refine hY ?_; clear hX hY X Y | refine AWp.block ?_ | refine hL _ _ ?_ | ((first | refine AWp.region tok (by rw [hnt]; rfl) ?_ | refine AWp.cond' fun X Y hX hY => ?_ | refine AWp.skip ?_ | refine AWp.exit ?_ | refine AWp.ret ?_ | refine Fin.auto [] ?_ | refine runS_c [] (linkNew_ok 1) rfl ?_ ?_ ?_ | refine runS_c [] (linkNew_ok 2) rfl ?_ ?_ ?_ | refine AWp.draw (id := 5) tok mixed pl_do_no0 [] [1, 2] (by kernel_rfl) (by kernel_rfl) (by rw [hnt]; rfl) ?_ | refine effS_c [] (linkNew_ok 1) rfl ?_ ?_ ?_ | refine effS_c [] (linkNew_ok 2) rfl ?_ ?_ ?_ | ((first | apply gR | apply gC | apply gT | apply gE) <;> intro hq <;> (try simp only [nT, nF, n1, n0] at hq) <;> (have hb := hq) <;> (try simp only [dT, dF, eT, eF] at hb) <;> first | (exfalso; omega) | ((try simp only [hq]); clear hq))) <;> (try simp only [go_sem, qa, qb, qc, qd, qe, qf, qg, qh, qi, qj, qk, ql, qm, qn, qo, qp, qq, qr, qs, reduceIte, reduceCtorEq, Two.new, Chain.new, Bank.new, State.new, List.reverse_nil])) | refine Fits.of ?_ ?_ | (refine aL ?_ (fun hp => ?_) <;> ((try simp only [rowSet_fI hp, rowSet_fI2 hp]); (try simp only [rowSet_fB hp]))) | refine aE ?_ fun hp => ?_ | refine aC ?_ fun hp => ?_ | refine And.intro ?_ ?_ | clear hK K | clear hX hY X Y | clear hL L)
  all_goals try omega
/-- The row of a chain's heights, as far as it is filled (from the end on). -/
def zeroS : List Cell := [ci 0, ci 0, ci 0, .t (.v (.slice none 0 0)), .t (.v (.slice none 0 0)), .t (.v (.slice none 0 0)), .t (.v (.slice none 0 0))]
def pastF (l : List State) (k : Nat) (i j : Nat) : Cell := if i < k then mkF zeroS i j else fS l i j
theorem pastF_zero (l : List State) : pastF l 0 = fS l := by
  funext i j; simp [pastF]
theorem pastF_set (l : List State) (k : Nat) (s : State) (hs : l.getD k default = s) : rowSet (pastF l (k + 1)) k 0 [.t (s.tv 0), .t (s.tv 1), .t (s.tv 2), .t (s.tv 3), .t (s.tv 4), .t (s.tv 5), .t (s.tv 6)] = pastF l k := by
  funext i j
  unfold rowSet
  by_cases e : i = k
  · subst e
    have h1 : ∀ j, pastF l i i j = .t (s.tv j) := fun j => by
      unfold pastF; rw [if_neg (by omega), fS_ap, hs]
    have h2 : ∀ j, pastF l (i + 1) i j = mkF zeroS i j := fun j => by
      unfold pastF; rw [if_pos (by omega)]
    rw [h1, h2]
    match j with
    | 0 => simp
    | 1 => simp
    | 2 => simp
    | 3 => simp
    | 4 => simp
    | 5 => simp
    | 6 => simp
    | j + 7 =>
      rw [if_neg (by simp)]
      rfl
  · have e2 : ¬ (i = k ∧ 0 ≤ j ∧ j < 0 + [Cell.t (s.tv 0), .t (s.tv 1), .t (s.tv 2), .t (s.tv 3), .t (s.tv 4), .t (s.tv 5), .t (s.tv 6)].length) := fun h => e h.1
    rw [if_neg e2]
    unfold pastF
    by_cases h1 : i < k
    · rw [if_pos (by omega), if_pos h1]
    · rw [if_neg (by omega), if_neg h1]
theorem past_isT (l : List State) (k i j : Nat) (hj : j < 7) : isT (pastF l k i j) = true := by
  unfold pastF
  split
  · match j, hj with
    | 0, _ => rfl
    | 1, _ => rfl
    | 2, _ => rfl
    | 3, _ => rfl
    | 4, _ => rfl
    | 5, _ => rfl
    | 6, _ => rfl
  · rfl
@[go_sem] theorem rle_past {H : Heap} {fz : Nat → Prop} {τ : List (Nat × Nat)} {N n k : Nat} {l : List State} : rle H fz τ N 7 n (pastF l k) (pastF l k) = True :=
  eq_true (rle_isT fun i _ j hj => past_isT l k i j hj)
@[go_sem] theorem rle_past0 {H : Heap} {fz : Nat → Prop} {τ : List (Nat × Nat)} {N : Nat} {l : List State} : rle H fz τ N 7 l.length (mkF [.t (.v (.int .i64 0)), .t (.v (.int .i64 0)), .t (.v (.int .i64 0)), .t (.v (.slice none 0 0)), .t (.v (.slice none 0 0)), .t (.v (.slice none 0 0)), .t (.v (.slice none 0 0))]) (pastF l l.length) = True := by
  refine eq_true ?_
  intro i hi j hj
  have : pastF l l.length i j = mkF [.t (.v (.int .i64 0)), .t (.v (.int .i64 0)), .t (.v (.int .i64 0)), .t (.v (.slice none 0 0)), .t (.v (.slice none 0 0)), .t (.v (.slice none 0 0)), .t (.v (.slice none 0 0))] i j := by unfold pastF; rw [if_pos hi]; rfl
  rw [this]
  have h2 : isT (mkF [.t (.v (.int .i64 0)), .t (.v (.int .i64 0)), .t (.v (.int .i64 0)), .t (.v (.slice none 0 0)), .t (.v (.slice none 0 0)), .t (.v (.slice none 0 0)), .t (.v (.slice none 0 0))] i j) = true := by
    have := past_isT l l.length i j hj
    rwa [show pastF l l.length i j = mkF [.t (.v (.int .i64 0)), .t (.v (.int .i64 0)), .t (.v (.int .i64 0)), .t (.v (.slice none 0 0)), .t (.v (.slice none 0 0)), .t (.v (.slice none 0 0)), .t (.v (.slice none 0 0))] i j from by assumption] at this
  cases e : mkF [.t (.v (.int .i64 0)), .t (.v (.int .i64 0)), .t (.v (.int .i64 0)), .t (.v (.slice none 0 0)), .t (.v (.slice none 0 0)), .t (.v (.slice none 0 0)), .t (.v (.slice none 0 0))] i j with
  | t x => simp [cle_t, tof_t, tle_refl]
  | _ => rw [e] at h2; cases h2
theorem lt2 {P : Nat → Prop} : (∀ i, i < 2 → P i) ↔ (P 0 ∧ P 1) :=
  ⟨fun h => ⟨h 0 (by omega), h 1 (by omega)⟩, fun h i hi => by
    match i, hi with
    | 0, _ => exact h.1
    | 1, _ => exact h.2⟩
theorem lt13 {P : Nat → Prop} : (∀ i, i < 13 → P i) ↔ (P 0 ∧ P 1 ∧ P 2 ∧ P 3 ∧ P 4 ∧ P 5 ∧ P 6 ∧ P 7 ∧ P 8 ∧ P 9 ∧ P 10 ∧ P 11 ∧ P 12) := by
  constructor
  · intro h
    exact ⟨h 0 (by omega), h 1 (by omega), h 2 (by omega), h 3 (by omega), h 4 (by omega), h 5 (by omega), h 6 (by omega), h 7 (by omega), h 8 (by omega), h 9 (by omega), h 10 (by omega), h 11 (by omega), h 12 (by omega)⟩
  · rintro ⟨h0, h1, h2, h3, h4, h5, h6, h7, h8, h9, h10, h11, h12⟩ i hi
    match i, hi with
    | 0, _ => exact h0
    | 1, _ => exact h1
    | 2, _ => exact h2
    | 3, _ => exact h3
    | 4, _ => exact h4
    | 5, _ => exact h5
    | 6, _ => exact h6
    | 7, _ => exact h7
    | 8, _ => exact h8
    | 9, _ => exact h9
    | 10, _ => exact h10
    | 11, _ => exact h11
    | 12, _ => exact h12
@[go_sem] theorem tlr_2_13 {H : Heap} {fz : Nat → Prop} {n : Nat} {f : Nat → Nat → Cell} {g : Nat → Nat → TV} : tlr H fz n 13 0 2 f g = ((tof H fz n (f (0 + 0) 0) (g 0 0) ∧ tof H fz n (f (0 + 0) 1) (g 0 1) ∧ tof H fz n (f (0 + 0) 2) (g 0 2) ∧ tof H fz n (f (0 + 0) 3) (g 0 3) ∧ tof H fz n (f (0 + 0) 4) (g 0 4) ∧ tof H fz n (f (0 + 0) 5) (g 0 5) ∧ tof H fz n (f (0 + 0) 6) (g 0 6) ∧ tof H fz n (f (0 + 0) 7) (g 0 7) ∧ tof H fz n (f (0 + 0) 8) (g 0 8) ∧ tof H fz n (f (0 + 0) 9) (g 0 9) ∧ tof H fz n (f (0 + 0) 10) (g 0 10) ∧ tof H fz n (f (0 + 0) 11) (g 0 11) ∧ tof H fz n (f (0 + 0) 12) (g 0 12)) ∧ (tof H fz n (f (0 + 1) 0) (g 1 0) ∧ tof H fz n (f (0 + 1) 1) (g 1 1) ∧ tof H fz n (f (0 + 1) 2) (g 1 2) ∧ tof H fz n (f (0 + 1) 3) (g 1 3) ∧ tof H fz n (f (0 + 1) 4) (g 1 4) ∧ tof H fz n (f (0 + 1) 5) (g 1 5) ∧ tof H fz n (f (0 + 1) 6) (g 1 6) ∧ tof H fz n (f (0 + 1) 7) (g 1 7) ∧ tof H fz n (f (0 + 1) 8) (g 1 8) ∧ tof H fz n (f (0 + 1) 9) (g 1 9) ∧ tof H fz n (f (0 + 1) 10) (g 1 10) ∧ tof H fz n (f (0 + 1) 11) (g 1 11) ∧ tof H fz n (f (0 + 1) 12) (g 1 12))) := by
  unfold tlr
  simp only [lt2, lt13]
theorem ichain_ok (c : Chain) (hp : (c.past.length : Int) ≤ 90) : Call Tryz.prog 65 [.c (.ptr 0 0 0 0)] (linkH c 0 1) 8 (.o (.g (chainA c 8))) (chainH c 8) 16 := by
  refine CallX.of tok Tryz.func65 rfl rfl Tryz.ntmps65 Tryz.results65 rfl (by decide) (fun cx hnt hk0 => ?_)
  
  repeat' (first | refine AWp.seq fun K hK => ?_ | refine hK _ ?_; clear hK K | refine hX ?_; clear hX hY X Y | refine hY ?_; clear hX hY X Y | refine AWp.block ?_ | refine hL _ _ ?_ | ((first | refine AWp.region tok (by rw [hnt]; rfl) ?_ | refine AWp.cond' fun X Y hX hY => ?_ | refine AWp.skip ?_ | refine AWp.exit ?_ | refine AWp.ret ?_ | refine Fin.auto [] ?_ | refine AWp.draw (id := 1) tok mixed pl_do_no1 [0] [0] (by kernel_rfl) (by kernel_rfl) (by rw [hnt]; rfl) ?_ | refine AWp.draw (id := 7) tok mixed pl_do_no2 [10] [3, 4, 5] (by kernel_rfl) (by kernel_rfl) (by rw [hnt]; rfl) ?_ | ((first | apply gR | apply gC | apply gT | apply gE) <;> intro hq <;> (try simp only [nT, nF, n1, n0] at hq) <;> (have hb := hq) <;> (try simp only [dT, dF, eT, eF] at hb) <;> first | (exfalso; omega) | ((try simp only [hq]); clear hq))) <;> (try simp only [go_sem, qa, qb, qc, qd, qe, qf, qg, qh, qi, qj, qk, ql, qm, qn, qo, qp, qq, qr, qs, reduceIte, reduceCtorEq])) | refine Fits.of ?_ ?_ | (refine aL ?_ (fun hp => ?_) <;> ((try simp only [rowSet_fI hp, rowSet_fI2 hp]); (try simp only [rowSet_fB hp]))) | refine aE ?_ fun hp => ?_ | refine aC ?_ fun hp => ?_ | refine And.intro ?_ ?_ | clear hK K | clear hX hY X Y | clear hL L)
  all_goals try omega
  all_goals refine AWp.loop (fun k : Nat => ⟨[(2, .o (.c (.ptr 8 0 0 0))), (3, .o (.c (.ptr 10 0 0 0))), (4, .o (I ((c.past.length : Int) - k))), (5, .o (.c (.t (marksT (c.past.reverse.drop k)))))], (8, .box [ci 0, .t (.v (.slice none 0 0)), .t (.v (.slice none 0 0)), ci 0, ci 0, ci 0, ci 0, .t (.v (.slice none 0 0)), .t (.v (.slice none 0 0)), .t (.v (.slice none 0 0)), .t (.v (.slice none 0 0)), .t (.v (.slice none 0 0)), .t (.v (.slice none 0 0))]) :: (9, .row 7 c.past.length (pastF c.past (c.past.length - k))) :: (10, .box [ci c.id, .sl 1 1 0 c.bank.own.length, .sl 2 1 0 c.bank.notes.length, ci c.bank.locked, ci c.state.way, ci c.state.ver, ci c.state.want, .sl 3 7 0 c.state.sent.length, .sl 4 1 0 c.state.live.length, .sl 5 1 0 c.state.back.length, .sl 6 1 0 c.state.got.length, .sl 9 7 0 c.past.length, .sl 7 1 0 c.knows.length]) :: linkH c 0 1, 11⟩) (fun k => k ≤ c.past.length) (fun k => c.past.length - k) 0 (Nat.zero_le _) ?_ ?_
  all_goals try (
    refine SLe.auto hk0 [] ?_; simp only [go_sem, qa, qb, qc, qd, qe, qf, qg, qh, qi, qj, qk, ql, qm, qn, qo, qp, qq, qr, qs, reduceIte, reduceCtorEq, List.drop_zero, Nat.sub_zero]
    done)
  all_goals try (
    refine SLe.auto hk0 [] ?_; simp only [go_sem, qa, qb, qc, qd, qe, qf, qg, qh, qi, qj, qk, ql, qm, qn, qo, qp, qq, qr, qs, reduceIte, reduceCtorEq, List.drop_zero, Nat.sub_zero]
    first | omega | simp)
  all_goals intro k hk
  all_goals (rcases Nat.lt_or_ge k c.past.length with hlt | hge)
  all_goals try (
    have em := marksT_drop c.past.reverse k (by rw [List.length_reverse]; exact hlt)
    have hs : c.past.getD (c.past.length - k - 1) default = c.past.reverse.getD k default := by
      simp only [List.getD]
      rw [List.getElem?_reverse hlt]
      congr 2; omega
    have hset := pastF_set c.past (c.past.length - k - 1) _ hs
    rw [show c.past.length - k - 1 + 1 = c.past.length - k by omega] at hset
    have e1 : ((c.past.length : Int) - (k : Int) - 1).toNat = c.past.length - k - 1 := by omega
    have e2 : c.past.length - (k + 1) = c.past.length - k - 1 := by omega
    simp only [State.tv] at hset)
  all_goals try (
    have em : marksT (c.past.reverse.drop k) = .v (.pointer none) := by
      rw [List.drop_eq_nil_of_le (by rw [List.length_reverse]; exact hge)]; rfl
    have e0 : c.past.length - k = 0 := by omega
    have hset := pastF_zero c.past
    have e1 : True := trivial
    have e2 : True := trivial)
  repeat' (first | refine AWp.seq fun K hK => ?_ | refine hK _ ?_; clear hK K | refine hX ?_; clear hX hY X Y | refine hY ?_; clear hX hY X Y | refine AWp.block ?_ | refine hL _ _ ?_ | ((first | refine AWp.region tok (by rw [hnt]; rfl) ?_ | refine AWp.cond' fun X Y hX hY => ?_ | refine AWp.skip ?_ | refine AWp.exit ?_ | refine AWp.ret ?_ | refine Fin.auto [] ?_ | refine AWp.draw (id := 1) tok mixed pl_do_no1 [0] [0] (by kernel_rfl) (by kernel_rfl) (by rw [hnt]; rfl) ?_ | refine AWp.draw (id := 7) tok mixed pl_do_no2 [10] [3, 4, 5] (by kernel_rfl) (by kernel_rfl) (by rw [hnt]; rfl) ?_ | refine SLe.auto hk0 [] ?_ | ((first | apply gR | apply gC | apply gT | apply gE) <;> intro hq <;> (try simp only [nT, nF, n1, n0] at hq) <;> (have hb := hq) <;> (try simp only [dT, dF, eT, eF] at hb) <;> first | (exfalso; omega) | ((try simp only [hq]); clear hq))) <;> (try simp only [go_sem, qa, qb, qc, qd, qe, qf, qg, qh, qi, qj, qk, ql, qm, qn, qo, qp, qq, qr, qs, reduceIte, reduceCtorEq, em, e1, e2, hset])) | refine ⟨k + 1, ?_, ?_, ?_⟩ | refine Fits.of ?_ ?_ | (refine aL ?_ (fun hp => ?_) <;> ((try simp only [rowSet_fI hp, rowSet_fI2 hp]); (try simp only [rowSet_fB hp]))) | refine aE ?_ fun hp => ?_ | refine aC ?_ fun hp => ?_ | refine And.intro ?_ ?_ | clear hK K | clear hX hY X Y | clear hL L)
  all_goals try (first | omega | (simp only [decide_eq_true_eq, decide_eq_false_iff_not, decide_eq_decide]; omega))
  all_goals try (simp only [e0, pastF_zero, rle_fS]; done)
theorem iworld_ok (w : Two) (h1 : (w.a.past.length : Int) ≤ 90) (h2 : (w.b.past.length : Int) ≤ 90) : Call Tryz.prog 39 [.c (.ptr 0 0 0 0)] (pairH w 3 10) 17 (.o (.g [.t (chainsT w.list)])) [] 17 := by
  refine CallX.of tok Tryz.func39 rfl rfl Tryz.ntmps39 Tryz.results39 rfl (by decide) (fun cx hnt hk0 => ?_)
  
  
  repeat' (first | refine AWp.seq fun K hK => ?_ | refine hK _ ?_; clear hK K | refine hX ?_; clear hX hY X Y | refine hY ?_; clear hX hY X Y | refine AWp.block ?_ | refine hL _ _ ?_ | ((first | refine AWp.region tok (by rw [hnt]; rfl) ?_ | refine AWp.cond' fun X Y hX hY => ?_ | refine AWp.skip ?_ | refine AWp.exit ?_ | refine AWp.ret ?_ | refine Fin.auto [18, 20, 21, 22, 23, 24, 25, 26, 27, 28, 29, 30, 31, 32, 33, 34, 35] ?_ | refine AWp.draw (id := 5) tok mixed pl_do_no3 [19] [3, 4, 5] (by kernel_rfl) (by kernel_rfl) (by rw [hnt]; rfl) ?_ | ((first | apply gR | apply gC | apply gT | apply gE) <;> intro hq <;> (try simp only [nT, nF, n1, n0] at hq) <;> (have hb := hq) <;> (try simp only [dT, dF, eT, eF] at hb) <;> first | (exfalso; omega) | ((try simp only [hq]); clear hq))) <;> (try simp only [go_sem, qa, qb, qc, qd, qe, qf, qg, qh, qi, qj, qk, ql, qm, qn, qo, qp, qq, qr, qs, reduceIte, reduceCtorEq])) | refine Fits.of ?_ ?_ | (refine aL ?_ (fun hp => ?_) <;> ((try simp only [rowSet_fI hp, rowSet_fI2 hp]); (try simp only [rowSet_fB hp]))) | refine aE ?_ fun hp => ?_ | refine aC ?_ fun hp => ?_ | refine And.intro ?_ ?_ | clear hK K | clear hX hY X Y | clear hL L)
  all_goals refine AWp.loopN 3 fun L hL => ?_
  repeat' (first | refine AWp.seq fun K hK => ?_ | refine hK _ ?_; clear hK K | refine hX ?_; clear hX hY X Y | refine hY ?_; clear hX hY X Y | refine AWp.block ?_ | refine hL _ _ ?_ | ((first | refine AWp.region tok (by rw [hnt]; rfl) ?_ | refine AWp.cond' fun X Y hX hY => ?_ | refine AWp.skip ?_ | refine AWp.exit ?_ | refine AWp.ret ?_ | refine Fin.auto [18, 20, 21, 22, 23, 24, 25, 26, 27, 28, 29, 30, 31, 32, 33, 34, 35] ?_ | refine runS_c [1, 3, 4, 5, 6, 7, 8, 9] (ichain_ok w.a h1) rfl ?_ ?_ ?_ | refine runS_c [2, 10, 11, 12, 13, 14, 15, 16] (ichain_ok w.b h2) rfl ?_ ?_ ?_ | refine AWp.draw (id := 5) tok mixed pl_do_no3 [19] [3, 4, 5] (by kernel_rfl) (by kernel_rfl) (by rw [hnt]; rfl) ?_ | refine effS_c [1, 3, 4, 5, 6, 7, 8, 9] (ichain_ok w.a h1) rfl ?_ ?_ ?_ | refine effS_c [2, 10, 11, 12, 13, 14, 15, 16] (ichain_ok w.b h2) rfl ?_ ?_ ?_ | ((first | apply gR | apply gC | apply gT | apply gE) <;> intro hq <;> (try simp only [nT, nF, n1, n0] at hq) <;> (have hb := hq) <;> (try simp only [dT, dF, eT, eF] at hb) <;> first | (exfalso; omega) | ((try simp only [hq]); clear hq))) <;> (try simp only [go_sem, qa, qb, qc, qd, qe, qf, qg, qh, qi, qj, qk, ql, qm, qn, qo, qp, qq, qr, qs, reduceIte, reduceCtorEq, Two.list, rowSet, List.getD_cons_succ])) | refine Fits.of ?_ ?_ | (refine aL ?_ (fun hp => ?_) <;> ((try simp only [rowSet_fI hp, rowSet_fI2 hp]); (try simp only [rowSet_fB hp]))) | refine aE ?_ fun hp => ?_ | refine aC ?_ fun hp => ?_ | refine And.intro ?_ ?_ | clear hK K | clear hX hY X Y | clear hL L)
  all_goals try omega
theorem iWorldPlay_no (es : List Event) (h : 60 < es.length) : Call Tryz.prog 20 [.c (.t (eventsT es))] [] 0 (.tup [.g [.t (chainsT [])], BB false]) [] 0 := by
  refine CallX.of tok Tryz.func20 rfl rfl Tryz.ntmps20 Tryz.results20 rfl (by decide) (fun cx hnt hk0 => ?_)
  repeat' (first | refine AWp.seq fun K hK => ?_ | refine hK _ ?_; clear hK K | refine hX ?_; clear hX hY X Y | refine hY ?_; clear hX hY X Y | refine AWp.block ?_ | refine hL _ _ ?_ | ((first | refine AWp.region tok (by rw [hnt]; rfl) ?_ | refine AWp.cond' fun X Y hX hY => ?_ | refine AWp.skip ?_ | refine AWp.exit ?_ | refine AWp.ret ?_ | refine Fin.auto [] ?_ | ((first | apply gR | apply gC) <;> intro hq <;> (try simp only [nT, nF, n1, n0] at hq) <;> (have hb := hq) <;> (try simp only [dT, dF, eT, eF] at hb) <;> first | (exfalso; omega) | ((try simp only [hq]); clear hq))) <;> (try simp only [go_sem, qa, qb, qc, qd, qe, qf, qg, qh, qi, qj, qk, ql, qm, qn, qo, qp, qq, qr, qs, reduceIte, reduceCtorEq])) | refine Fits.of ?_ ?_ | (refine aL ?_ (fun hp => ?_) <;> ((try simp only [rowSet_fI hp, rowSet_fI2 hp]); (try simp only [rowSet_fB hp]))) | refine aE ?_ fun hp => ?_ | refine aC ?_ fun hp => ?_ | refine And.intro ?_ ?_ | clear hK K | clear hX hY X Y | clear hL L)
  all_goals omega
theorem iWorldPlay_ok (es : List Event) (h : es.length ≤ 60) : Call Tryz.prog 20 [.c (.t (eventsT es))] [] 0 (.tup [.g [.t (chainsT (Two.new.play es).list)], BB true]) [] 0 := by
  refine CallX.of tok Tryz.func20 rfl rfl Tryz.ntmps20 Tryz.results20 rfl (by decide) (fun cx hnt hk0 => ?_)
  repeat' (first | refine AWp.seq fun K hK => ?_ | refine hK _ ?_; clear hK K | refine hX ?_; clear hX hY X Y | refine hY ?_; clear hX hY X Y | refine AWp.block ?_ | refine hL _ _ ?_ | ((first | refine AWp.region tok (by rw [hnt]; rfl) ?_ | refine AWp.cond' fun X Y hX hY => ?_ | refine AWp.skip ?_ | refine AWp.exit ?_ | refine AWp.ret ?_ | refine Fin.auto [] ?_ | refine runS_c [] (pairNew_ok) rfl ?_ ?_ ?_ | ((first | apply gR | apply gC) <;> intro hq <;> (try simp only [nT, nF, n1, n0] at hq) <;> (have hb := hq) <;> (try simp only [dT, dF, eT, eF] at hb) <;> first | (exfalso; omega) | ((try simp only [hq]); clear hq))) <;> (try simp only [go_sem, qa, qb, qc, qd, qe, qf, qg, qh, qi, qj, qk, ql, qm, qn, qo, qp, qq, qr, qs, reduceIte, reduceCtorEq])) | refine Fits.of ?_ ?_ | (refine aL ?_ (fun hp => ?_) <;> ((try simp only [rowSet_fI hp, rowSet_fI2 hp]); (try simp only [rowSet_fB hp]))) | refine aE ?_ fun hp => ?_ | refine aC ?_ fun hp => ?_ | refine And.intro ?_ ?_ | clear hK K | clear hX hY X Y | clear hL L)
  all_goals try omega
  refine AWp.loop (fun i : Nat => ⟨[(2, .o (.c (.ptr 0 0 0 0))), (4, .o (.c (.ptr 1 0 0 0))), (12, .o (.c (.t (eventsT es)))), (13, .o (I es.length)), (14, .o (I i))], (0, .box [.t (.v (.slice none 0 0))]) :: (1, .box [.ptr 2 0 0 0, .ptr 3 0 0 0]) :: (linkH (Two.new.play (es.take i)).a 2 4 ++ linkH (Two.new.play (es.take i)).b 3 11), 18⟩) (fun i => i ≤ es.length) (fun i => es.length - i) 0 (Nat.zero_le _) ?_ ?_
  · refine SLe.auto hk0 [] ?_; simp only [go_sem, qa, qb, qc, qd, qe, qf, qg, qh, qi, qj, qk, ql, qm, qn, qo, qp, qq, qr, qs, reduceIte, reduceCtorEq, List.take_zero, Two.play, List.foldl_nil, Two.new, Chain.new, Bank.new, State.new, List.reverse_nil]
    all_goals simp
  intro i hi
  have hw := two_play_wOk (es.take i)
  obtain ⟨p1, p2, p3, p4, p5, p6⟩ := wOk_iff.1 hw
  have l1 := (chain_ok p1).2.2.2.1
  have l2 := (chain_ok p2).2.2.2.1
  by_cases hlt : i < es.length
  · repeat' (first | refine AWp.seq fun K hK => ?_ | refine hK _ ?_; clear hK K | refine hX ?_; clear hX hY X Y | refine hY ?_; clear hX hY X Y | refine AWp.block ?_ | refine hL _ _ ?_ | ((first | refine AWp.region tok (by rw [hnt]; rfl) ?_ | refine AWp.cond' fun X Y hX hY => ?_ | refine AWp.skip ?_ | refine AWp.exit ?_ | refine AWp.ret ?_ | refine Fin.auto [] ?_ | refine runS_c [1, 2, 3, 4, 5, 6, 7, 8, 9, 10, 11, 12, 13, 14, 15, 16, 17] (do_ok (Two.new.play (es.take i)) (es.getD i default) hw) rfl ?_ ?_ ?_ | refine SLe.auto hk0 [] ?_ | ((first | apply gR | apply gC) <;> intro hq <;> (try simp only [nT, nF, n1, n0] at hq) <;> (have hb := hq) <;> (try simp only [dT, dF, eT, eF] at hb) <;> first | (exfalso; omega) | ((try simp only [hq]); clear hq))) <;> (try simp only [go_sem, qa, qb, qc, qd, qe, qf, qg, qh, qi, qj, qk, ql, qm, qn, qo, qp, qq, qr, qs, reduceIte, reduceCtorEq])) | refine ⟨i + 1, ?_, ?_, ?_⟩ | refine Fits.of ?_ ?_ | (refine aL ?_ (fun hp => ?_) <;> ((try simp only [rowSet_fI hp, rowSet_fI2 hp]); (try simp only [rowSet_fB hp]))) | refine aE ?_ fun hp => ?_ | refine aC ?_ fun hp => ?_ | refine And.intro ?_ ?_ | clear hK K | clear hX hY X Y | clear hL L)
    all_goals try (first | omega | (simp only [decide_eq_true_eq, decide_eq_false_iff_not, decide_eq_decide]; omega))
    all_goals try (rw [play_take es i (by omega)]; exact tle_refl)
    all_goals try (first | (rw [play_take es i (by omega)]; done) | (rw [play_take es i (by omega)]; simp [rle_fI, rle_fB, rle_fP, rle_fS]; done))
    all_goals trace_state
  · have ei : i = es.length := by omega
    subst ei
    rw [List.take_length] at *
    repeat' (first | refine AWp.seq fun K hK => ?_ | refine hK _ ?_; clear hK K | refine hX ?_; clear hX hY X Y | refine hY ?_; clear hX hY X Y | refine AWp.block ?_ | refine hL _ _ ?_ | ((first | refine AWp.region tok (by rw [hnt]; rfl) ?_ | refine AWp.cond' fun X Y hX hY => ?_ | refine AWp.skip ?_ | refine AWp.exit ?_ | refine AWp.ret ?_ | refine Fin.auto [] ?_ | refine runS_c [1, 2, 3, 4, 5, 6, 7, 8, 9, 10, 11, 12, 13, 14, 15, 16, 17] (iworld_ok (Two.new.play es) (by omega) (by omega)) rfl ?_ ?_ ?_ | ((first | apply gR | apply gC) <;> intro hq <;> (try simp only [nT, nF, n1, n0] at hq) <;> (have hb := hq) <;> (try simp only [dT, dF, eT, eF] at hb) <;> first | (exfalso; omega) | ((try simp only [hq]); clear hq))) <;> (try simp only [go_sem, qa, qb, qc, qd, qe, qf, qg, qh, qi, qj, qk, ql, qm, qn, qo, qp, qq, qr, qs, reduceIte, reduceCtorEq])) | refine Fits.of ?_ ?_ | (refine aL ?_ (fun hp => ?_) <;> ((try simp only [rowSet_fI hp, rowSet_fI2 hp]); (try simp only [rowSet_fB hp]))) | refine aE ?_ fun hp => ?_ | refine aC ?_ fun hp => ?_ | refine And.intro ?_ ?_ | clear hK K | clear hX hY X Y | clear hL L)
    all_goals try omega
    all_goals trace_state
end Go.Hw
