/- What is proved here: parts W22 of the walk of the law and of its plain side; no condition but those that each theorem states. -/
import Derived.Test.YtcbceacjhmblnaaGreatB1
/- What is proved: when the statements find two worlds the same. -/
set_option linter.all false
set_option maxRecDepth 100000
set_option maxHeartbeats 4000000
namespace Go.Hw
open Go.Proofs
open Nat renaming reduceDiv → qa, reduceMod → qb, reduceAdd → qc, reduceMul → qd, reduceSub → qe, reduceLeDiff → qf, reduceBEq → qg, reduceEqDiff → qh, reduceBeqDiff → qi, reduceLT → qj
open Int renaming reduceToNat → qk, reduceAdd → ql, reduceSub → qm, reduceNeg → qn, reduceLT → qo, reduceLE → qp, reduceEq → qq, reduceBEq → qr, reduceBNe → qs
open Go.Hw renaming runG_split → gR, condG_split → gC, takG_split → gT, effG_split → gE
def pl_State0 : Plan := (.tak 0 (.tak 1 (.tak 2 (.tak 3 (.tak 4 (.tak 5 (.tak 6 (.tak 7 (.tak 8 (.tak 9 (.tak 10 .done)))))))))))
attribute [go_sem] pl_State0
def pl_State1 : Plan := (.tak 0 (.tak 1 (.tak 2 (.tak 3 (.tak 4 (.tak 5 (.tak 6 (.tak 7 (.tak 8 (.tak 9 (.all (.cons 10 (.tak 11 .done) .nil))))))))))))
attribute [go_sem] pl_State1
theorem State.eq_iff {a b : State} : a = b ↔ (a.way = b.way ∧ a.ver = b.ver ∧ a.want = b.want ∧ a.sent = b.sent ∧ a.live = b.live ∧ a.back = b.back ∧ a.got = b.got) := by
  cases a; cases b; simp
theorem Bank.eq_iff {a b : Bank} : a = b ↔ (a.own = b.own ∧ a.notes = b.notes ∧ a.locked = b.locked) := by
  cases a; cases b; simp
theorem Chain.eq_iff {a b : Chain} : a = b ↔ (a.id = b.id ∧ a.bank = b.bank ∧ a.state = b.state ∧ a.past = b.past ∧ a.knows = b.knows) := by
  cases a; cases b; simp
theorem list_eq {α : Type} {d : α} {a b : List α} (h1 : a.length = b.length) (h2 : ∀ j, j < a.length → a.getD j d = b.getD j d) : a = b := by
  refine List.ext_getElem h1 fun i hi hi2 => ?_
  have := h2 i hi
  simpa [List.getD, hi, hi2] using this
theorem list_ne {α : Type} {d : α} {a b : List α} {j : Nat} (h2 : a.getD j d ≠ b.getD j d) : a ≠ b := fun e => h2 (by rw [e])
theorem len_ne {α : Type} {a b : List α} (h : ¬ (a.length : Int) = b.length) : a ≠ b := fun e => h (by rw [e])
theorem lists_false {α : Type} [DecidableEq α] {a b : List α} (h : a ≠ b) : false = decide (a = b) := (decide_eq_false h).symm
theorem lists_true {α : Type} [DecidableEq α] {a b : List α} (h : a = b) : true = decide (a = b) := (decide_eq_true h).symm
theorem lwInts_ok (a b : List Int) (h1 : a.length ≤ 1000000) : Call Tryz.prog 71 [.c (.t (intsT a)), .c (.t (intsT b))] [] 0 (.o (BB (decide (a = b)))) [] 0 := by
  refine CallX.of tok Tryz.func71 rfl rfl Tryz.ntmps71 Tryz.results71 rfl (by decide) (fun cx hnt hk0 => ?_)
  repeat' (first | refine AWp.seq fun K hK => ?_ | refine hK _ ?_; clear hK K | refine hX ?_; clear hX hY X Y | refine hY ?_; clear hX hY X Y | refine AWp.block ?_ | refine hL _ _ ?_ | ((first | refine AWp.region tok (by rw [hnt]; rfl) ?_ | refine AWp.cond' fun X Y hX hY => ?_ | refine AWp.skip ?_ | refine AWp.exit ?_ | refine AWp.ret ?_ | refine Fin.auto [] ?_ | refine AWp.draw (id := 6) tok mixed (.tak 0 (.tak 1 (.tak 2 (.tak 3 (.tak 4 (.tak 5 (.tak 6 (.tak 7 (.tak 8 .done))))))))) [] [0, 1, 5] (by kernel_rfl) (by kernel_rfl) (by rw [hnt]; rfl) ?_ | ((first | apply gR | apply gC | apply gT | apply gE) <;> intro hq <;> (try simp only [nT, nF, n1, n0] at hq) <;> (have hb := hq) <;> (try simp only [dT, dF, eT, eF] at hb) <;> first | (exfalso; omega) | ((try simp only [hq]); clear hq))) <;> (try simp only [go_sem, qa, qb, qc, qd, qe, qf, qg, qh, qi, qj, qk, ql, qm, qn, qo, qp, qq, qr, qs, reduceIte, reduceCtorEq])) | refine Fits.of ?_ ?_ | (refine aL ?_ (fun hp => ?_) <;> ((try simp only [rowSet_fI hp, rowSet_fI2 hp]); (try simp only [rowSet_fB hp]))) | refine aE ?_ fun hp => ?_ | refine aC ?_ fun hp => ?_ | refine And.intro ?_ ?_ | clear hK K | clear hX hY X Y | clear hL L)
  · exact lists_false (len_ne (by assumption))
  refine AWp.loop (fun i : Nat => ⟨[(0, .o (.c (.t (intsT a)))), (1, .o (.c (.t (intsT b)))), (5, .o (I i))], [], 0⟩) (fun i => i ≤ a.length ∧ ∀ j, j < i → a.getD j 0 = b.getD j 0) (fun i => a.length - i) 0 ⟨Nat.zero_le _, fun j hj => absurd hj (Nat.not_lt_zero j)⟩ ?_ ?_
  · refine SLe.auto hk0 [] ?_; simp only [go_sem, qa, qb, qc, qd, qe, qf, qg, qh, qi, qj, qk, ql, qm, qn, qo, qp, qq, qr, qs, reduceIte, reduceCtorEq]
    simp
  intro i ⟨hi, hr⟩
  repeat' (first | refine AWp.seq fun K hK => ?_ | refine hK _ ?_; clear hK K | refine hX ?_; clear hX hY X Y | refine hY ?_; clear hX hY X Y | refine AWp.block ?_ | refine hL _ _ ?_ | ((first | refine AWp.region tok (by rw [hnt]; rfl) ?_ | refine AWp.cond' fun X Y hX hY => ?_ | refine AWp.skip ?_ | refine AWp.exit ?_ | refine AWp.ret ?_ | refine Fin.auto [] ?_ | refine AWp.draw (id := 6) tok mixed (.tak 0 (.tak 1 (.tak 2 (.tak 3 (.tak 4 (.tak 5 (.tak 6 (.tak 7 (.tak 8 .done))))))))) [] [0, 1, 5] (by kernel_rfl) (by kernel_rfl) (by rw [hnt]; rfl) ?_ | refine SLe.auto hk0 [] ?_ | ((first | apply gR | apply gC | apply gT | apply gE) <;> intro hq <;> (try simp only [nT, nF, n1, n0] at hq) <;> (have hb := hq) <;> (try simp only [dT, dF, eT, eF] at hb) <;> first | (exfalso; omega) | ((try simp only [hq]); clear hq))) <;> (try simp only [go_sem, qa, qb, qc, qd, qe, qf, qg, qh, qi, qj, qk, ql, qm, qn, qo, qp, qq, qr, qs, reduceIte, reduceCtorEq])) | refine ⟨i + 1, ?_, ?_, ?_⟩ | refine Fits.of ?_ ?_ | (refine aL ?_ (fun hp => ?_) <;> ((try simp only [rowSet_fI hp, rowSet_fI2 hp]); (try simp only [rowSet_fB hp]))) | refine aE ?_ fun hp => ?_ | refine aC ?_ fun hp => ?_ | refine And.intro ?_ ?_ | clear hK K | clear hX hY X Y | clear hL L)
  all_goals try (first | omega | (simp only [decide_eq_true_eq, decide_eq_false_iff_not, decide_eq_decide]; omega))
  · exact lists_false (list_ne (by first | assumption | simpa [-List.getD_eq_getElem?_getD, bne_iff_ne] using hb))
  · intro j hj
    rcases Nat.lt_succ_iff_lt_or_eq.1 hj with h' | rfl
    · exact hr j h'
    · first | assumption | simpa [-List.getD_eq_getElem?_getD, bne_iff_ne] using hb
  · exact lists_true (list_eq (by omega) fun j hj => hr j (by omega))
theorem lwBools_ok (a b : List Bool) (h1 : a.length ≤ 1000000) : Call Tryz.prog 103 [.c (.t (boolsT a)), .c (.t (boolsT b))] [] 0 (.o (BB (decide (a = b)))) [] 0 := by
  refine CallX.of tok Tryz.func103 rfl rfl Tryz.ntmps103 Tryz.results103 rfl (by decide) (fun cx hnt hk0 => ?_)
  repeat' (first | refine AWp.seq fun K hK => ?_ | refine hK _ ?_; clear hK K | refine hX ?_; clear hX hY X Y | refine hY ?_; clear hX hY X Y | refine AWp.block ?_ | refine hL _ _ ?_ | ((first | refine AWp.region tok (by rw [hnt]; rfl) ?_ | refine AWp.cond' fun X Y hX hY => ?_ | refine AWp.skip ?_ | refine AWp.exit ?_ | refine AWp.ret ?_ | refine Fin.auto [] ?_ | refine AWp.draw (id := 6) tok mixed (.tak 0 (.tak 1 (.tak 2 (.tak 3 (.tak 4 (.tak 5 (.tak 6 (.tak 7 (.tak 8 .done))))))))) [] [0, 1, 5] (by kernel_rfl) (by kernel_rfl) (by rw [hnt]; rfl) ?_ | ((first | apply gR | apply gC | apply gT | apply gE) <;> intro hq <;> (try simp only [nT, nF, n1, n0] at hq) <;> (have hb := hq) <;> (try simp only [dT, dF, eT, eF] at hb) <;> first | (exfalso; omega) | ((try simp only [hq]); clear hq))) <;> (try simp only [go_sem, qa, qb, qc, qd, qe, qf, qg, qh, qi, qj, qk, ql, qm, qn, qo, qp, qq, qr, qs, reduceIte, reduceCtorEq])) | refine Fits.of ?_ ?_ | (refine aL ?_ (fun hp => ?_) <;> ((try simp only [rowSet_fI hp, rowSet_fI2 hp]); (try simp only [rowSet_fB hp]))) | refine aE ?_ fun hp => ?_ | refine aC ?_ fun hp => ?_ | refine And.intro ?_ ?_ | clear hK K | clear hX hY X Y | clear hL L)
  · exact lists_false (len_ne (by assumption))
  refine AWp.loop (fun i : Nat => ⟨[(0, .o (.c (.t (boolsT a)))), (1, .o (.c (.t (boolsT b)))), (5, .o (I i))], [], 0⟩) (fun i => i ≤ a.length ∧ ∀ j, j < i → a.getD j false = b.getD j false) (fun i => a.length - i) 0 ⟨Nat.zero_le _, fun j hj => absurd hj (Nat.not_lt_zero j)⟩ ?_ ?_
  · refine SLe.auto hk0 [] ?_; simp only [go_sem, qa, qb, qc, qd, qe, qf, qg, qh, qi, qj, qk, ql, qm, qn, qo, qp, qq, qr, qs, reduceIte, reduceCtorEq]
    simp
  intro i ⟨hi, hr⟩
  repeat' (first | refine AWp.seq fun K hK => ?_ | refine hK _ ?_; clear hK K | refine hX ?_; clear hX hY X Y | refine hY ?_; clear hX hY X Y | refine AWp.block ?_ | refine hL _ _ ?_ | ((first | refine AWp.region tok (by rw [hnt]; rfl) ?_ | refine AWp.cond' fun X Y hX hY => ?_ | refine AWp.skip ?_ | refine AWp.exit ?_ | refine AWp.ret ?_ | refine Fin.auto [] ?_ | refine AWp.draw (id := 6) tok mixed (.tak 0 (.tak 1 (.tak 2 (.tak 3 (.tak 4 (.tak 5 (.tak 6 (.tak 7 (.tak 8 .done))))))))) [] [0, 1, 5] (by kernel_rfl) (by kernel_rfl) (by rw [hnt]; rfl) ?_ | refine SLe.auto hk0 [] ?_ | ((first | apply gR | apply gC | apply gT | apply gE) <;> intro hq <;> (try simp only [nT, nF, n1, n0] at hq) <;> (have hb := hq) <;> (try simp only [dT, dF, eT, eF] at hb) <;> first | (exfalso; omega) | ((try simp only [hq]); clear hq))) <;> (try simp only [go_sem, qa, qb, qc, qd, qe, qf, qg, qh, qi, qj, qk, ql, qm, qn, qo, qp, qq, qr, qs, reduceIte, reduceCtorEq])) | refine ⟨i + 1, ?_, ?_, ?_⟩ | refine Fits.of ?_ ?_ | (refine aL ?_ (fun hp => ?_) <;> ((try simp only [rowSet_fI hp, rowSet_fI2 hp]); (try simp only [rowSet_fB hp]))) | refine aE ?_ fun hp => ?_ | refine aC ?_ fun hp => ?_ | refine And.intro ?_ ?_ | clear hK K | clear hX hY X Y | clear hL L)
  all_goals try (first | omega | (simp only [decide_eq_true_eq, decide_eq_false_iff_not, decide_eq_decide]; omega))
  · exact lists_false (list_ne (by first | assumption | simpa [-List.getD_eq_getElem?_getD, bne_iff_ne] using hb))
  · intro j hj
    rcases Nat.lt_succ_iff_lt_or_eq.1 hj with h' | rfl
    · exact hr j h'
    · first | assumption | simpa [-List.getD_eq_getElem?_getD, bne_iff_ne] using hb
  · exact lists_true (list_eq (by omega) fun j hj => hr j (by omega))
theorem lwBank_ok (a b : Bank) (h1 : a.own.length ≤ 1000000) (h2 : a.notes.length ≤ 1000000) : Call Tryz.prog 69 [a.av, b.av] [] 0 (.o (BB (decide (a = b)))) [] 0 := by
  refine CallX.of tok Tryz.func69 rfl rfl Tryz.ntmps69 Tryz.results69 rfl (by decide) (fun cx hnt hk0 => ?_)
  
  repeat' (first | refine AWp.seq fun K hK => ?_ | refine hK _ ?_; clear hK K | refine hX ?_; clear hX hY X Y | refine hY ?_; clear hX hY X Y | refine AWp.block ?_ | refine hL _ _ ?_ | ((first | refine AWp.region tok (by rw [hnt]; rfl) ?_ | refine AWp.cond' fun X Y hX hY => ?_ | refine AWp.skip ?_ | refine AWp.exit ?_ | refine AWp.ret ?_ | refine Fin.auto [] ?_ | refine runS_c [] (lwInts_ok a.own b.own h1) rfl ?_ ?_ ?_ | refine runS_c [] (lwInts_ok a.notes b.notes h2) rfl ?_ ?_ ?_ | ((first | apply gR | apply gC) <;> intro hq <;> (try simp only [nT, nF, n1, n0] at hq) <;> (have hb := hq) <;> (try simp only [dT, dF, eT, eF] at hb) <;> first | (exfalso; omega) | ((try simp only [hq]); clear hq))) <;> (try simp only [go_sem, qa, qb, qc, qd, qe, qf, qg, qh, qi, qj, qk, ql, qm, qn, qo, qp, qq, qr, qs, reduceIte, reduceCtorEq])) | refine Fits.of ?_ ?_ | (refine aL ?_ (fun hp => ?_) <;> ((try simp only [rowSet_fI hp, rowSet_fI2 hp]); (try simp only [rowSet_fB hp]))) | refine aE ?_ fun hp => ?_ | refine aC ?_ fun hp => ?_ | refine And.intro ?_ ?_ | clear hK K | clear hX hY X Y | clear hL L)
  all_goals (obtain ⟨a1, a2, a3⟩ := a; obtain ⟨b1, b2, b3⟩ := b; simp_all)
def State.fit (s : State) : Prop := s.sent.length ≤ 1000000 ∧ s.live.length ≤ 1000000 ∧ s.back.length ≤ 1000000 ∧ s.got.length ≤ 1000000
theorem lwState_ok (a b : State) (h1 : a.sent.length ≤ 1000000) (h2 : a.live.length ≤ 1000000) (h3 : a.back.length ≤ 1000000) (h4 : a.got.length ≤ 1000000) : Call Tryz.prog 70 [a.av, b.av] [] 0 (.o (BB (decide (a = b)))) [] 0 := by
  refine CallX.of tok Tryz.func70 rfl rfl Tryz.ntmps70 Tryz.results70 rfl (by decide) (fun cx hnt hk0 => ?_)
  
  repeat' (first | refine AWp.seq fun K hK => ?_ | refine hK _ ?_; clear hK K | refine hX ?_; clear hX hY X Y | refine hY ?_; clear hX hY X Y | refine AWp.block ?_ | refine hL _ _ ?_ | ((first | refine AWp.region tok (by rw [hnt]; rfl) ?_ | refine AWp.cond' fun X Y hX hY => ?_ | refine AWp.skip ?_ | refine AWp.exit ?_ | refine AWp.ret ?_ | refine Fin.auto [] ?_ | refine AWp.draw (id := 6) tok mixed pl_State0 [0, 1] [2, 3, 5] (by kernel_rfl) (by kernel_rfl) (by rw [hnt]; rfl) ?_ | ((first | apply gR | apply gC | apply gT | apply gE) <;> intro hq <;> (try simp only [nT, nF, n1, n0] at hq) <;> (have hb := hq) <;> (try simp only [dT, dF, eT, eF] at hb) <;> first | (exfalso; omega) | ((try simp only [hq]); clear hq))) <;> (try simp only [go_sem, qa, qb, qc, qd, qe, qf, qg, qh, qi, qj, qk, ql, qm, qn, qo, qp, qq, qr, qs, reduceIte, reduceCtorEq])) | refine Fits.of ?_ ?_ | (refine aL ?_ (fun hp => ?_) <;> ((try simp only [rowSet_fI hp, rowSet_fI2 hp]); (try simp only [rowSet_fB hp]))) | refine aE ?_ fun hp => ?_ | refine aC ?_ fun hp => ?_ | refine And.intro ?_ ?_ | clear hK K | clear hX hY X Y | clear hL L)
  all_goals try (obtain ⟨a1, a2, a3, a4, a5, a6, a7⟩ := a; obtain ⟨b1, b2, b3, b4, b5, b6, b7⟩ := b; simp_all; done)
  all_goals try (refine (decide_eq_false fun e => ?_).symm; subst e; omega)
  refine AWp.loop (fun i : Nat => ⟨[(2, .o (.c (.ptr 0 0 0 0))), (3, .o (.c (.ptr 1 0 0 0))), (5, .o (I i))], [(0, a.box), (1, b.box)], 2⟩) (fun i => i ≤ a.sent.length ∧ ∀ j, j < i → a.sent.getD j default = b.sent.getD j default) (fun i => a.sent.length - i) 0 ⟨Nat.zero_le _, fun j hj => absurd hj (Nat.not_lt_zero j)⟩ ?_ ?_
  · refine SLe.auto hk0 [] ?_; simp only [go_sem, qa, qb, qc, qd, qe, qf, qg, qh, qi, qj, qk, ql, qm, qn, qo, qp, qq, qr, qs, reduceIte, reduceCtorEq]
    simp
  intro i ⟨hi, hr⟩
  
  repeat' (first | refine AWp.seq fun K hK => ?_ | refine hK _ ?_; clear hK K | refine hX ?_; clear hX hY X Y | refine hY ?_; clear hX hY X Y | refine AWp.block ?_ | refine hL _ _ ?_ | ((first | refine AWp.region tok (by rw [hnt]; rfl) ?_ | refine AWp.cond' fun X Y hX hY => ?_ | refine AWp.skip ?_ | refine AWp.exit ?_ | refine AWp.ret ?_ | refine Fin.auto [] ?_ | refine runS_c [] (lwBools_ok a.live b.live h2) rfl ?_ ?_ ?_ | refine runS_c [] (lwBools_ok a.back b.back h3) rfl ?_ ?_ ?_ | refine runS_c [] (lwInts_ok a.got b.got h4) rfl ?_ ?_ ?_ | refine AWp.draw (id := 6) tok mixed pl_State0 [0, 1] [2, 3, 5] (by kernel_rfl) (by kernel_rfl) (by rw [hnt]; rfl) ?_ | refine effS_c [] (lwBools_ok a.live b.live h2) rfl ?_ ?_ ?_ | refine effS_c [] (lwBools_ok a.back b.back h3) rfl ?_ ?_ ?_ | refine effS_c [] (lwInts_ok a.got b.got h4) rfl ?_ ?_ ?_ | refine SLe.auto hk0 [] ?_ | ((first | apply gR | apply gC | apply gT | apply gE) <;> intro hq <;> (try simp only [nT, nF, n1, n0] at hq) <;> (have hb := hq) <;> (try simp only [dT, dF, eT, eF] at hb) <;> first | (exfalso; omega) | ((try simp only [hq]); clear hq))) <;> (try simp only [go_sem, qa, qb, qc, qd, qe, qf, qg, qh, qi, qj, qk, ql, qm, qn, qo, qp, qq, qr, qs, reduceIte, reduceCtorEq])) | refine ⟨i + 1, ?_, ?_, ?_⟩ | refine Fits.of ?_ ?_ | (refine aL ?_ (fun hp => ?_) <;> ((try simp only [rowSet_fI hp, rowSet_fI2 hp]); (try simp only [rowSet_fB hp]))) | refine aE ?_ fun hp => ?_ | refine aC ?_ fun hp => ?_ | refine And.intro ?_ ?_ | clear hK K | clear hX hY X Y | clear hL L)
  all_goals try (first | omega | (simp only [decide_eq_true_eq, decide_eq_false_iff_not, decide_eq_decide]; omega))
  · refine (decide_eq_false fun e => ?_).symm; subst e; simp at hb
  · intro j hj
    rcases Nat.lt_succ_iff_lt_or_eq.1 hj with h' | rfl
    · exact hr j h'
    · exact Packet.eq_iff.2 (by simpa [-List.getD_eq_getElem?_getD, and_assoc] using hb)
  all_goals (have es : a.sent = b.sent := list_eq (by omega) fun j hj => hr j (by omega))
  all_goals simp [State.eq_iff, *]
def Chain.fit (c : Chain) : Prop := c.bank.own.length ≤ 1000000 ∧ c.bank.notes.length ≤ 1000000 ∧ c.state.fit ∧ (∀ i, (c.past.getD i default).fit) ∧ c.past.length ≤ 1000000 ∧ c.knows.length ≤ 1000000
theorem lwChain_ok (a b : Chain) (h : a.fit) : Call Tryz.prog 42 [a.av, b.av] [] 0 (.o (BB (decide (a = b)))) [] 0 := by
  obtain ⟨h1, h2, ⟨h3, h4, h5, h6⟩, h7, h8, h9⟩ := h
  refine CallX.of tok Tryz.func42 rfl rfl Tryz.ntmps42 Tryz.results42 rfl (by decide) (fun cx hnt hk0 => ?_)
  
  repeat' (first | refine AWp.seq fun K hK => ?_ | refine hK _ ?_; clear hK K | refine hX ?_; clear hX hY X Y | refine hY ?_; clear hX hY X Y | refine AWp.block ?_ | refine hL _ _ ?_ | ((first | refine AWp.region tok (by rw [hnt]; rfl) ?_ | refine AWp.cond' fun X Y hX hY => ?_ | refine AWp.skip ?_ | refine AWp.exit ?_ | refine AWp.ret ?_ | refine Fin.auto [] ?_ | refine runS_c [] (lwBank_ok a.bank b.bank h1 h2) rfl ?_ ?_ ?_ | refine runS_c [] (lwState_ok a.state b.state h3 h4 h5 h6) rfl ?_ ?_ ?_ | refine runS_c [] (lwInts_ok a.knows b.knows h9) rfl ?_ ?_ ?_ | refine AWp.draw (id := 6) tok mixed pl_State1 [0, 1] [2, 3, 5] (by kernel_rfl) (by kernel_rfl) (by rw [hnt]; rfl) ?_ | refine effS_c [] (lwBank_ok a.bank b.bank h1 h2) rfl ?_ ?_ ?_ | refine effS_c [] (lwState_ok a.state b.state h3 h4 h5 h6) rfl ?_ ?_ ?_ | refine effS_c [] (lwInts_ok a.knows b.knows h9) rfl ?_ ?_ ?_ | ((first | apply gR | apply gC | apply gT | apply gE) <;> intro hq <;> (try simp only [nT, nF, n1, n0] at hq) <;> (have hb := hq) <;> (try simp only [dT, dF, eT, eF] at hb) <;> first | (exfalso; omega) | ((try simp only [hq]); clear hq))) <;> (try simp only [go_sem, qa, qb, qc, qd, qe, qf, qg, qh, qi, qj, qk, ql, qm, qn, qo, qp, qq, qr, qs, reduceIte, reduceCtorEq])) | refine Fits.of ?_ ?_ | (refine aL ?_ (fun hp => ?_) <;> ((try simp only [rowSet_fI hp, rowSet_fI2 hp]); (try simp only [rowSet_fB hp]))) | refine aE ?_ fun hp => ?_ | refine aC ?_ fun hp => ?_ | refine And.intro ?_ ?_ | clear hK K | clear hX hY X Y | clear hL L)
  all_goals try (simp [Chain.eq_iff, *]; done)
  all_goals try (refine (decide_eq_false fun e => ?_).symm; subst e; omega)
  refine AWp.loop (fun i : Nat => ⟨[(2, .o (.c (.ptr 0 0 0 0))), (3, .o (.c (.ptr 1 0 0 0))), (5, .o (I i))], [(0, a.box), (1, b.box)], 2⟩) (fun i => i ≤ a.past.length ∧ ∀ j, j < i → a.past.getD j default = b.past.getD j default) (fun i => a.past.length - i) 0 ⟨Nat.zero_le _, fun j hj => absurd hj (Nat.not_lt_zero j)⟩ ?_ ?_
  · refine SLe.auto hk0 [] ?_; simp only [go_sem, qa, qb, qc, qd, qe, qf, qg, qh, qi, qj, qk, ql, qm, qn, qo, qp, qq, qr, qs, reduceIte, reduceCtorEq]
    simp
  intro i ⟨hi, hr⟩
  
  repeat' (first | refine AWp.seq fun K hK => ?_ | refine hK _ ?_; clear hK K | refine hX ?_; clear hX hY X Y | refine hY ?_; clear hX hY X Y | refine AWp.block ?_ | refine hL _ _ ?_ | ((first | refine AWp.region tok (by rw [hnt]; rfl) ?_ | refine AWp.cond' fun X Y hX hY => ?_ | refine AWp.skip ?_ | refine AWp.exit ?_ | refine AWp.ret ?_ | refine Fin.auto [] ?_ | refine runS_c [] (lwState_ok (a.past.getD i default) (b.past.getD i default) (h7 i).1 (h7 i).2.1 (h7 i).2.2.1 (h7 i).2.2.2) rfl ?_ ?_ ?_ | refine AWp.draw (id := 6) tok mixed pl_State1 [0, 1] [2, 3, 5] (by kernel_rfl) (by kernel_rfl) (by rw [hnt]; rfl) ?_ | refine effS_c [] (lwState_ok (a.past.getD i default) (b.past.getD i default) (h7 i).1 (h7 i).2.1 (h7 i).2.2.1 (h7 i).2.2.2) rfl ?_ ?_ ?_ | refine SLe.auto hk0 [] ?_ | ((first | apply gR | apply gC | apply gT | apply gE) <;> intro hq <;> (try simp only [nT, nF, n1, n0] at hq) <;> (have hb := hq) <;> (try simp only [dT, dF, eT, eF] at hb) <;> first | (exfalso; omega) | ((try simp only [hq]); clear hq))) <;> (try simp only [go_sem, qa, qb, qc, qd, qe, qf, qg, qh, qi, qj, qk, ql, qm, qn, qo, qp, qq, qr, qs, reduceIte, reduceCtorEq])) | refine ⟨i + 1, ?_, ?_, ?_⟩ | refine Fits.of ?_ ?_ | (refine aL ?_ (fun hp => ?_) <;> ((try simp only [rowSet_fI hp, rowSet_fI2 hp]); (try simp only [rowSet_fB hp]))) | refine aE ?_ fun hp => ?_ | refine aC ?_ fun hp => ?_ | refine And.intro ?_ ?_ | clear hK K | clear hX hY X Y | clear hL L)
  all_goals try (first | omega | (simp only [decide_eq_true_eq, decide_eq_false_iff_not, decide_eq_decide]; omega))
  · exact (decide_eq_false fun e => hb (by rw [e])).symm
  · intro j hj
    rcases Nat.lt_succ_iff_lt_or_eq.1 hj with h' | rfl
    · exact hr j h'
    · exact hb
  · have es : a.past = b.past := list_eq (by omega) fun j hj => hr j (by omega)
    simp [Chain.eq_iff, *]
theorem lwWorld_ok (a b : List Chain) (h : ∀ i, (a.getD i default).fit) (h2 : a.length ≤ 1000000) : Call Tryz.prog 22 [.g [.t (chainsT a)], .g [.t (chainsT b)]] [] 0 (.o (BB (decide (a = b)))) [] 0 := by
  refine CallX.of tok Tryz.func22 rfl rfl Tryz.ntmps22 Tryz.results22 rfl (by decide) (fun cx hnt hk0 => ?_)
  
  repeat' (first | refine AWp.seq fun K hK => ?_ | refine hK _ ?_; clear hK K | refine hX ?_; clear hX hY X Y | refine hY ?_; clear hX hY X Y | refine AWp.block ?_ | refine hL _ _ ?_ | ((first | refine AWp.region tok (by rw [hnt]; rfl) ?_ | refine AWp.cond' fun X Y hX hY => ?_ | refine AWp.skip ?_ | refine AWp.exit ?_ | refine AWp.ret ?_ | refine Fin.auto [] ?_ | refine AWp.draw (id := 6) tok mixed pl_State1 [0, 1] [2, 3, 5] (by kernel_rfl) (by kernel_rfl) (by rw [hnt]; rfl) ?_ | ((first | apply gR | apply gC | apply gT | apply gE) <;> intro hq <;> (try simp only [nT, nF, n1, n0] at hq) <;> (have hb := hq) <;> (try simp only [dT, dF, eT, eF] at hb) <;> first | (exfalso; omega) | ((try simp only [hq]); clear hq))) <;> (try simp only [go_sem, qa, qb, qc, qd, qe, qf, qg, qh, qi, qj, qk, ql, qm, qn, qo, qp, qq, qr, qs, reduceIte, reduceCtorEq])) | refine Fits.of ?_ ?_ | (refine aL ?_ (fun hp => ?_) <;> ((try simp only [rowSet_fI hp, rowSet_fI2 hp]); (try simp only [rowSet_fB hp]))) | refine aE ?_ fun hp => ?_ | refine aC ?_ fun hp => ?_ | refine And.intro ?_ ?_ | clear hK K | clear hX hY X Y | clear hL L)
  · exact lists_false (len_ne (by assumption))
  refine AWp.loop (fun i : Nat => ⟨[(2, .o (.c (.ptr 0 0 0 0))), (3, .o (.c (.ptr 1 0 0 0))), (5, .o (I i))], [(0, .box [.t (chainsT a)]), (1, .box [.t (chainsT b)])], 2⟩) (fun i => i ≤ a.length ∧ ∀ j, j < i → a.getD j default = b.getD j default) (fun i => a.length - i) 0 ⟨Nat.zero_le _, fun j hj => absurd hj (Nat.not_lt_zero j)⟩ ?_ ?_
  · refine SLe.auto hk0 [] ?_; simp only [go_sem, qa, qb, qc, qd, qe, qf, qg, qh, qi, qj, qk, ql, qm, qn, qo, qp, qq, qr, qs, reduceIte, reduceCtorEq]
    simp
  intro i ⟨hi, hr⟩
  
  repeat' (first | refine AWp.seq fun K hK => ?_ | refine hK _ ?_; clear hK K | refine hX ?_; clear hX hY X Y | refine hY ?_; clear hX hY X Y | refine AWp.block ?_ | refine hL _ _ ?_ | ((first | refine AWp.region tok (by rw [hnt]; rfl) ?_ | refine AWp.cond' fun X Y hX hY => ?_ | refine AWp.skip ?_ | refine AWp.exit ?_ | refine AWp.ret ?_ | refine Fin.auto [] ?_ | refine runS_c [] (lwChain_ok (a.getD i default) (b.getD i default) (h i)) rfl ?_ ?_ ?_ | refine AWp.draw (id := 6) tok mixed pl_State1 [0, 1] [2, 3, 5] (by kernel_rfl) (by kernel_rfl) (by rw [hnt]; rfl) ?_ | refine effS_c [] (lwChain_ok (a.getD i default) (b.getD i default) (h i)) rfl ?_ ?_ ?_ | refine SLe.auto hk0 [] ?_ | ((first | apply gR | apply gC | apply gT | apply gE) <;> intro hq <;> (try simp only [nT, nF, n1, n0] at hq) <;> (have hb := hq) <;> (try simp only [dT, dF, eT, eF] at hb) <;> first | (exfalso; omega) | ((try simp only [hq]); clear hq))) <;> (try simp only [go_sem, qa, qb, qc, qd, qe, qf, qg, qh, qi, qj, qk, ql, qm, qn, qo, qp, qq, qr, qs, reduceIte, reduceCtorEq])) | refine ⟨i + 1, ?_, ?_, ?_⟩ | refine Fits.of ?_ ?_ | (refine aL ?_ (fun hp => ?_) <;> ((try simp only [rowSet_fI hp, rowSet_fI2 hp]); (try simp only [rowSet_fB hp]))) | refine aE ?_ fun hp => ?_ | refine aC ?_ fun hp => ?_ | refine And.intro ?_ ?_ | clear hK K | clear hX hY X Y | clear hL L)
  all_goals try (first | omega | (simp only [decide_eq_true_eq, decide_eq_false_iff_not, decide_eq_decide]; omega))
  · exact (decide_eq_false fun e => hb (by rw [e])).symm
  · intro j hj
    rcases Nat.lt_succ_iff_lt_or_eq.1 hj with h' | rfl
    · exact hr j h'
    · exact hb
  · exact lists_true (list_eq (by omega) fun j hj => hr j (by omega))
end Go.Hw
