/- What is proved here: parts W49, W51 of the walk of the law and of its plain side; no condition but those that each theorem states. -/
import Derived.Test.YtcbceacjhmblnaaGreatE3
import Derived.Test.YtcbceacjhmblnaaGreatE2
/- What is proved: chains that the program works on: how they begin, how a height is added, which state was at a height. -/
set_option linter.all false
set_option maxRecDepth 100000
set_option maxHeartbeats 4000000
namespace Go.Hw
open Go.Proofs
open Nat renaming reduceDiv → qa, reduceMod → qb, reduceAdd → qc, reduceMul → qd, reduceSub → qe, reduceLeDiff → qf, reduceBEq → qg, reduceEqDiff → qh, reduceBeqDiff → qi, reduceLT → qj
open Int renaming reduceToNat → qk, reduceAdd → ql, reduceSub → qm, reduceNeg → qn, reduceLT → qo, reduceLE → qp, reduceEq → qq, reduceBEq → qr, reduceBNe → qs
open Go.Hw renaming runG_split → gR, condG_split → gC, takG_split → gT, effG_split → gE
@[go_sem ↓] theorem colC_t {k : Nat} {x : Cell} {y : TV} : colC k x (.t y) = [] := by
  cases x with
  | t x => unfold colC; split <;> first | rfl | (rename_i h; cases h)
  | _ => rfl
/-- The heights of a chain, the last one first. -/
def marksT : List State → TV
  | [] => .v (.pointer none)
  | s :: r => .ptr 8 fun j => if j = 7 then marksT r else s.tv j
def markF (s : State) (r : List State) (j : Nat) : TV := if j = 7 then marksT r else s.tv j
theorem marksT_cons (s : State) (r : List State) : marksT (s :: r) = .ptr 8 (markF s r) := rfl
@[go_sem] theorem markF_7 (s : State) (r : List State) : markF s r 7 = marksT r := rfl
@[go_sem] theorem markF_0 (s : State) (r : List State) : markF s r 0 = s.tv 0 := rfl
@[go_sem] theorem markF_1 (s : State) (r : List State) : markF s r 1 = s.tv 1 := rfl
@[go_sem] theorem markF_2 (s : State) (r : List State) : markF s r 2 = s.tv 2 := rfl
@[go_sem] theorem markF_3 (s : State) (r : List State) : markF s r 3 = s.tv 3 := rfl
@[go_sem] theorem markF_4 (s : State) (r : List State) : markF s r 4 = s.tv 4 := rfl
@[go_sem] theorem markF_5 (s : State) (r : List State) : markF s r 5 = s.tv 5 := rfl
@[go_sem] theorem markF_6 (s : State) (r : List State) : markF s r 6 = s.tv 6 := rfl
attribute [go_sem] marksT_cons
@[go_sem] theorem marksT_nil : marksT [] = .v (.pointer none) := rfl
/-- A chain of one's own that is being worked on: its box under h0, its rows under the seven handles from h on. -/
def linkA (c : Chain) (h : Nat) : List Cell := bankA c.bank h ++ (.t (.v (.int .i64 c.id)) :: (stateA c.state (h + 2) ++ [.t (marksT c.past.reverse), .t (.v (.int .i64 c.past.length)), .sl (h + 6) 1 0 c.knows.length]))
def linkH (c : Chain) (h0 h : Nat) : Heap := (h0, .box (linkA c h)) :: (bankH c.bank h ++ (stateH c.state (h + 2) ++ [(h + 6, rI c.knows)]))
attribute [go_sem] linkA linkH
theorem linkNew_ok (id : Int) : Call Tryz.prog 57 [I id] [] 0 (.o (.c (.ptr 0 0 0 0))) (linkH (Chain.new id) 0 1) 8 := by
  refine CallX.of tok Tryz.func57 rfl rfl Tryz.ntmps57 Tryz.results57 rfl (by decide) (fun cx hnt hk0 => ?_)
  repeat' (first | refine AWp.seq fun K hK => ?_ | refine hK _ ?_; clear hK K | refine hX ?_; clear hX hY X Y | refine hY ?_; clear hX hY X Y | refine AWp.block ?_ | refine hL _ _ ?_ | ((first | refine AWp.region tok (by rw [hnt]; rfl) ?_ | refine AWp.cond' fun X Y hX hY => ?_ | refine AWp.skip ?_ | refine AWp.exit ?_ | refine AWp.ret ?_ | refine Fin.auto [] ?_ | refine runS_c [] (iBankNew_ok) rfl ?_ ?_ ?_ | refine runS_c [] (iStateNew_ok) rfl ?_ ?_ ?_ | ((first | apply gR | apply gC) <;> intro hq <;> (try simp only [nT, nF, n1, n0] at hq) <;> (have hb := hq) <;> (try simp only [dT, dF, eT, eF] at hb) <;> first | (exfalso; omega) | ((try simp only [hq]); clear hq))) <;> (try simp only [go_sem, qa, qb, qc, qd, qe, qf, qg, qh, qi, qj, qk, ql, qm, qn, qo, qp, qq, qr, qs, reduceIte, reduceCtorEq, Chain.new, Bank.new, State.new, List.reverse_nil])) | refine Fits.of ?_ ?_ | (refine aL ?_ (fun hp => ?_) <;> ((try simp only [rowSet_fI hp, rowSet_fI2 hp]); (try simp only [rowSet_fB hp]))) | refine aE ?_ fun hp => ?_ | refine aC ?_ fun hp => ?_ | refine And.intro ?_ ?_ | clear hK K | clear hX hY X Y | clear hL L)
  all_goals rfl
theorem record_ok (c : Chain) (hs : c.state.ok = true) (hp : (c.past.length : Int) < 1000) : Call Tryz.prog 81 [.c (.ptr 0 0 0 0), .g (stateA c.state 3)] (linkH c 0 1) 8 (.tup []) (linkH { c with past := c.past ++ [c.state] } 0 8) 15 := by
  obtain ⟨r1, r2, r3, r4, r5, r6, r7, r8, r9⟩ := state_ok hs
  refine CallX.of tok Tryz.func81 rfl rfl Tryz.ntmps81 Tryz.results81 rfl (by decide) (fun cx hnt hk0 => ?_)
  
  
  repeat' (first | refine AWp.seq fun K hK => ?_ | refine hK _ ?_; clear hK K | refine hX ?_; clear hX hY X Y | refine hY ?_; clear hX hY X Y | refine AWp.block ?_ | refine hL _ _ ?_ | ((first | refine AWp.region tok (by rw [hnt]; rfl) ?_ | refine AWp.cond' fun X Y hX hY => ?_ | refine AWp.skip ?_ | refine AWp.exit ?_ | refine AWp.ret ?_ | refine Fin.auto [9, 10, 11, 12, 13] ?_ | refine runS_v [] (stateCopy_ok c.state (by omega) (by omega) (by omega) (by omega)) ?_ ?_ ?_ ?_ ?_ | refine AWp.draw (id := 1) tok mixed (.tak 0 (.tak 1 (.tak 3 (.tak 4 (.tak 5 (.all (.cons 2 (.all (.cons 6 (.all (.cons 7 (.all (.cons 8 (.tak 9 (.tak 10 (.all (.cons 11 .done .nil)))) .nil)) .nil)) .nil)) (.cons 6 (.all (.cons 2 (.all (.cons 7 (.all (.cons 8 (.tak 9 (.tak 10 (.all (.cons 11 .done .nil)))) .nil)) .nil)) .nil)) .nil)))))))) [8] [0, 3] (by kernel_rfl) (by kernel_rfl) (by rw [hnt]; rfl) ?_ | refine effS_v [] (stateCopy_ok c.state (by omega) (by omega) (by omega) (by omega)) ?_ ?_ ?_ ?_ ?_ | ((first | apply gR | apply gC | apply gT | apply gE) <;> intro hq <;> (try simp only [nT, nF, n1, n0] at hq) <;> (have hb := hq) <;> (try simp only [dT, dF, eT, eF] at hb) <;> first | (exfalso; omega) | ((try simp only [hq]); clear hq))) <;> (try simp only [go_sem, qa, qb, qc, qd, qe, qf, qg, qh, qi, qj, qk, ql, qm, qn, qo, qp, qq, qr, qs, reduceIte, reduceCtorEq, List.reverse_append, List.reverse_cons, List.reverse_nil, List.nil_append, List.cons_append])) | refine Fits.of ?_ ?_ | (refine aL ?_ (fun hp => ?_) <;> ((try simp only [rowSet_fI hp, rowSet_fI2 hp]); (try simp only [rowSet_fB hp]))) | refine aE ?_ fun hp => ?_ | refine aC ?_ fun hp => ?_ | refine And.intro ?_ ?_ | clear hK K | clear hX hY X Y | clear hL L)
  all_goals try omega
theorem iblock_ok (c : Chain) (hs : c.state.ok = true) (hp : (c.past.length : Int) < 1000) : Call Tryz.prog 59 [.c (.ptr 0 0 0 0)] (linkH c 0 1) 8 (.tup []) (linkH c.block 0 8) 15 := by
  unfold Chain.block
  by_cases h : (c.past.length : Int) < 90
  · rw [if_pos h]
    refine CallX.of tok Tryz.func59 rfl rfl Tryz.ntmps59 Tryz.results59 rfl (by decide) (fun cx hnt hk0 => ?_)
    repeat' (first | refine AWp.seq fun K hK => ?_ | refine hK _ ?_; clear hK K | refine hX ?_; clear hX hY X Y | refine hY ?_; clear hX hY X Y | refine AWp.block ?_ | refine hL _ _ ?_ | ((first | refine AWp.region tok (by rw [hnt]; rfl) ?_ | refine AWp.cond' fun X Y hX hY => ?_ | refine AWp.skip ?_ | refine AWp.exit ?_ | refine AWp.ret ?_ | refine Fin.auto [] ?_ | refine runS_c [0, 1, 2, 3, 4, 5, 6, 7] (record_ok c hs hp) rfl ?_ ?_ ?_ | ((first | apply gR | apply gC) <;> intro hq <;> (try simp only [nT, nF, n1, n0] at hq) <;> (have hb := hq) <;> (try simp only [dT, dF, eT, eF] at hb) <;> first | (exfalso; omega) | ((try simp only [hq]); clear hq))) <;> (try simp only [go_sem, qa, qb, qc, qd, qe, qf, qg, qh, qi, qj, qk, ql, qm, qn, qo, qp, qq, qr, qs, reduceIte, reduceCtorEq])) | refine Fits.of ?_ ?_ | (refine aL ?_ (fun hp => ?_) <;> ((try simp only [rowSet_fI hp, rowSet_fI2 hp]); (try simp only [rowSet_fB hp]))) | refine aE ?_ fun hp => ?_ | refine aC ?_ fun hp => ?_ | refine And.intro ?_ ?_ | clear hK K | clear hX hY X Y | clear hL L)
    all_goals try omega
  · rw [if_neg h]
    refine CallX.of tok Tryz.func59 rfl rfl Tryz.ntmps59 Tryz.results59 rfl (by decide) (fun cx hnt hk0 => ?_)
    repeat' (first | refine AWp.seq fun K hK => ?_ | refine hK _ ?_; clear hK K | refine hX ?_; clear hX hY X Y | refine hY ?_; clear hX hY X Y | refine AWp.block ?_ | refine hL _ _ ?_ | ((first | refine AWp.region tok (by rw [hnt]; rfl) ?_ | refine AWp.cond' fun X Y hX hY => ?_ | refine AWp.skip ?_ | refine AWp.exit ?_ | refine AWp.ret ?_ | refine Fin.auto [] ?_ | ((first | apply gR | apply gC) <;> intro hq <;> (try simp only [nT, nF, n1, n0] at hq) <;> (have hb := hq) <;> (try simp only [dT, dF, eT, eF] at hb) <;> first | (exfalso; omega) | ((try simp only [hq]); clear hq))) <;> (try simp only [go_sem, qa, qb, qc, qd, qe, qf, qg, qh, qi, qj, qk, ql, qm, qn, qo, qp, qq, qr, qs, reduceIte, reduceCtorEq])) | refine Fits.of ?_ ?_ | (refine aL ?_ (fun hp => ?_) <;> ((try simp only [rowSet_fI hp, rowSet_fI2 hp]); (try simp only [rowSet_fB hp]))) | refine aE ?_ fun hp => ?_ | refine aC ?_ fun hp => ?_ | refine And.intro ?_ ?_ | clear hK K | clear hX hY X Y | clear hL L)
    all_goals try omega
end Go.Hw
/- What is proved: what a chain that is worked on may get, be told, give back. -/
set_option linter.all false
set_option maxRecDepth 100000
set_option maxHeartbeats 4000000
namespace Go.Hw
open Go.Proofs
open Nat renaming reduceDiv → qa, reduceMod → qb, reduceAdd → qc, reduceMul → qd, reduceSub → qe, reduceLeDiff → qf, reduceBEq → qg, reduceEqDiff → qh, reduceBeqDiff → qi, reduceLT → qj
open Int renaming reduceToNat → qk, reduceAdd → ql, reduceSub → qm, reduceNeg → qn, reduceLT → qo, reduceLE → qp, reduceEq → qq, reduceBEq → qr, reduceBNe → qs
open Go.Hw renaming runG_split → gR, condG_split → gC, takG_split → gT, effG_split → gE
def pl_marksT_drop0 : Plan := (.tak 0 (.tak 1 (.tak 2 (.all (.cons 3 (.tak 4 (.tak 5 (.tak 6 (.tak 7 (.all (.cons 8 (.tak 9 (.tak 10 (.tak 11 (.tak 12 (.tak 13 (.tak 14 (.tak 15 (.tak 16 (.tak 17 (.tak 18 (.tak 19 (.tak 20 (.tak 21 (.tak 22 (.tak 23 (.tak 24 (.tak 25 (.tak 26 (.tak 27 (.tak 28 .done)))))))))))))))))))) .nil)))))) .nil)))))
attribute [go_sem] pl_marksT_drop0
def pl_marksT_drop1 : Plan := (.tak 0 (.tak 1 (.tak 2 (.tak 3 (.tak 4 (.tak 5 (.tak 6 (.tak 7 (.tak 8 (.tak 9 (.all (.cons 10 (.tak 11 (.tak 12 (.tak 13 (.all (.cons 14 (.all (.cons 15 (.tak 16 .done) .nil)) .nil))))) (.cons 14 (.all (.cons 10 (.tak 11 (.tak 12 (.tak 13 (.all (.cons 15 (.tak 16 .done) .nil))))) .nil)) .nil)))))))))))))
attribute [go_sem] pl_marksT_drop1
theorem marksT_drop (r : List State) (k : Nat) (h : k < r.length) : marksT (r.drop k) = .ptr 8 (markF (r.getD k default) (r.drop (k + 1))) := by
  rw [List.drop_eq_getElem_cons h, marksT_cons]
  simp [List.getD, h]
def proofA (s : State) (h : Int) : A1 := .g [.t (s.tv 0), .t (s.tv 1), .t (s.tv 2), .t (s.tv 3), .t (s.tv 4), .t (s.tv 5), .t (s.tv 6), .t (.v (.int .i64 h))]
attribute [go_sem] proofA
theorem at_yes (c : Chain) (n : Int) (h1 : 1 ≤ n) (h2 : n ≤ c.past.length) (hp : (c.past.length : Int) < 1000) : Call Tryz.prog 90 [.c (.ptr 0 0 0 0), I n] (linkH c 0 1) 8 (.tup [(c.at n).av, BB true]) (linkH c 0 1) 8 := by
  have e1 : c.past.reverse.getD (c.past.length - n.toNat) default = c.at n := by
    unfold Chain.at
    simp only [List.getD]
    rw [List.getElem?_reverse (by omega)]
    congr 2; omega
  refine CallX.of tok Tryz.func90 rfl rfl Tryz.ntmps90 Tryz.results90 rfl (by decide) (fun cx hnt hk0 => ?_)
  repeat' (first | refine AWp.seq fun K hK => ?_ | refine hK _ ?_; clear hK K | refine hX ?_; clear hX hY X Y | refine hY ?_; clear hX hY X Y | refine AWp.block ?_ | refine hL _ _ ?_ | ((first | refine AWp.region tok (by rw [hnt]; rfl) ?_ | refine AWp.cond' fun X Y hX hY => ?_ | refine AWp.skip ?_ | refine AWp.exit ?_ | refine AWp.ret ?_ | refine Fin.auto [] ?_ | ((first | apply gR | apply gC) <;> intro hq <;> (try simp only [nT, nF, n1, n0] at hq) <;> (have hb := hq) <;> (try simp only [dT, dF, eT, eF] at hb) <;> first | (exfalso; omega) | ((try simp only [hq]); clear hq))) <;> (try simp only [go_sem, qa, qb, qc, qd, qe, qf, qg, qh, qi, qj, qk, ql, qm, qn, qo, qp, qq, qr, qs, reduceIte, reduceCtorEq])) | refine Fits.of ?_ ?_ | (refine aL ?_ (fun hp => ?_) <;> ((try simp only [rowSet_fI hp, rowSet_fI2 hp]); (try simp only [rowSet_fB hp]))) | refine aE ?_ fun hp => ?_ | refine aC ?_ fun hp => ?_ | refine And.intro ?_ ?_ | clear hK K | clear hX hY X Y | clear hL L)
  all_goals try omega
  refine AWp.loop (fun k : Nat => ⟨[(4, .o (.c (.ptr 8 0 0 0))), (6, .o (.c (.t (marksT (c.past.reverse.drop k))))), (27, .o (I (c.past.length - n))), (28, .o (I k))], (8, .box [ci 0, ci 0, ci 0, .t (.v (.slice none 0 0)), .t (.v (.slice none 0 0)), .t (.v (.slice none 0 0)), .t (.v (.slice none 0 0))]) :: linkH c 0 1, 9⟩) (fun k => (k : Int) ≤ c.past.length - n) (fun k => c.past.length - k) 0 (by omega) ?_ ?_
  · refine SLe.auto hk0 [] ?_; simp only [go_sem, qa, qb, qc, qd, qe, qf, qg, qh, qi, qj, qk, ql, qm, qn, qo, qp, qq, qr, qs, reduceIte, reduceCtorEq, List.drop_zero]
    rfl
  intro k hk
  have em := marksT_drop c.past.reverse k (by rw [List.length_reverse]; omega)
  by_cases hlt : (k : Int) < c.past.length - n
  · repeat' (first | refine AWp.seq fun K hK => ?_ | refine hK _ ?_; clear hK K | refine hX ?_; clear hX hY X Y | refine hY ?_; clear hX hY X Y | refine AWp.block ?_ | refine hL _ _ ?_ | ((first | refine AWp.region tok (by rw [hnt]; rfl) ?_ | refine AWp.cond' fun X Y hX hY => ?_ | refine AWp.skip ?_ | refine AWp.exit ?_ | refine AWp.ret ?_ | refine Fin.auto [] ?_ | refine SLe.auto hk0 [] ?_ | ((first | apply gR | apply gC) <;> intro hq <;> (try simp only [nT, nF, n1, n0] at hq) <;> (have hb := hq) <;> (try simp only [dT, dF, eT, eF] at hb) <;> first | (exfalso; omega) | ((try simp only [hq]); clear hq))) <;> (try simp only [go_sem, qa, qb, qc, qd, qe, qf, qg, qh, qi, qj, qk, ql, qm, qn, qo, qp, qq, qr, qs, reduceIte, reduceCtorEq, em])) | refine ⟨k + 1, ?_, ?_, ?_⟩ | refine Fits.of ?_ ?_ | (refine aL ?_ (fun hp => ?_) <;> ((try simp only [rowSet_fI hp, rowSet_fI2 hp]); (try simp only [rowSet_fB hp]))) | refine aE ?_ fun hp => ?_ | refine aC ?_ fun hp => ?_ | refine And.intro ?_ ?_ | clear hK K | clear hX hY X Y | clear hL L)
    all_goals try (first | omega | (simp only [decide_eq_true_eq, decide_eq_false_iff_not, decide_eq_decide]; omega))
  · have ek : k = c.past.length - n.toNat := by omega
    have e2 : c.past.reverse.getD k default = c.at n := by rw [ek]; exact e1
    repeat' (first | refine AWp.seq fun K hK => ?_ | refine hK _ ?_; clear hK K | refine hX ?_; clear hX hY X Y | refine hY ?_; clear hX hY X Y | refine AWp.block ?_ | refine hL _ _ ?_ | ((first | refine AWp.region tok (by rw [hnt]; rfl) ?_ | refine AWp.cond' fun X Y hX hY => ?_ | refine AWp.skip ?_ | refine AWp.exit ?_ | refine AWp.ret ?_ | refine Fin.auto [] ?_ | ((first | apply gR | apply gC) <;> intro hq <;> (try simp only [nT, nF, n1, n0] at hq) <;> (have hb := hq) <;> (try simp only [dT, dF, eT, eF] at hb) <;> first | (exfalso; omega) | ((try simp only [hq]); clear hq))) <;> (try simp only [go_sem, qa, qb, qc, qd, qe, qf, qg, qh, qi, qj, qk, ql, qm, qn, qo, qp, qq, qr, qs, reduceIte, reduceCtorEq, em, e2])) | refine Fits.of ?_ ?_ | (refine aL ?_ (fun hp => ?_) <;> ((try simp only [rowSet_fI hp, rowSet_fI2 hp]); (try simp only [rowSet_fB hp]))) | refine aE ?_ fun hp => ?_ | refine aC ?_ fun hp => ?_ | refine And.intro ?_ ?_ | clear hK K | clear hX hY X Y | clear hL L)
    all_goals try omega
theorem mayGet_ok (c : Chain) (s : State) (h : Int) (p : Packet) (hc : c.state.ok = true) (hs : s.ok = true) (hp : (c.past.length : Int) < 1000) : Call Tryz.prog 121 [.c (.ptr 0 0 0 0), proofA s h, p.av] (linkH c 0 1) 8 (.o (BB (c.getB s p))) (linkH c 0 1) 8 := by
  obtain ⟨r1, r2, r3, r4, r5, r6, r7, r8, r9⟩ := state_ok hc
  obtain ⟨u1, u2, u3, u4, u5, u6, u7, u8, u9⟩ := state_ok hs
  unfold Chain.getB
  by_cases hw : 3 ≤ c.state.way
  · cases hb0 : s.hasB p
    · refine CallX.of tok Tryz.func121 rfl rfl Tryz.ntmps121 Tryz.results121 rfl (by decide) (fun cx hnt hk0 => ?_)
      
      repeat' (first | refine AWp.seq fun K hK => ?_ | refine hK _ ?_; clear hK K | refine hX ?_; clear hX hY X Y | refine hY ?_; clear hX hY X Y | refine AWp.block ?_ | refine hL _ _ ?_ | ((first | refine AWp.region tok (by rw [hnt]; rfl) ?_ | refine AWp.cond' fun X Y hX hY => ?_ | refine AWp.skip ?_ | refine AWp.exit ?_ | refine AWp.ret ?_ | refine Fin.auto [] ?_ | refine runS_c [] (StateHas_yes s p hs) rfl ?_ ?_ ?_ | refine AWp.draw (id := 4) tok mixed pl_marksT_drop0 [0, 8, 9, 10] [0, 4, 5, 7] (by kernel_rfl) (by kernel_rfl) (by rw [hnt]; rfl) ?_ | refine effS_c [] (StateHas_yes s p hs) rfl ?_ ?_ ?_ | ((first | apply gR | apply gC | apply gT | apply gE) <;> intro hq <;> (try simp only [nT, nF, n1, n0] at hq) <;> (have hb := hq) <;> (try simp only [dT, dF, eT, eF] at hb) <;> first | (exfalso; omega) | ((try simp only [hq]); clear hq))) <;> (try simp only [go_sem, qa, qb, qc, qd, qe, qf, qg, qh, qi, qj, qk, ql, qm, qn, qo, qp, qq, qr, qs, reduceIte, reduceCtorEq, hb0])) | refine Fits.of ?_ ?_ | (refine aL ?_ (fun hp => ?_) <;> ((try simp only [rowSet_fI hp, rowSet_fI2 hp]); (try simp only [rowSet_fB hp]))) | refine aE ?_ fun hp => ?_ | refine aC ?_ fun hp => ?_ | refine And.intro ?_ ?_ | clear hK K | clear hX hY X Y | clear hL L)
      all_goals try omega
      all_goals simp
    · have hi : 1 ≤ p.seq ∧ p.seq ≤ 8 := by
        simp only [State.hasB, Bool.and_eq_true, In_iff] at hb0
        omega
      refine CallX.of tok Tryz.func121 rfl rfl Tryz.ntmps121 Tryz.results121 rfl (by decide) (fun cx hnt hk0 => ?_)
      
      repeat' (first | refine AWp.seq fun K hK => ?_ | refine hK _ ?_; clear hK K | refine hX ?_; clear hX hY X Y | refine hY ?_; clear hX hY X Y | refine AWp.block ?_ | refine hL _ _ ?_ | ((first | refine AWp.region tok (by rw [hnt]; rfl) ?_ | refine AWp.cond' fun X Y hX hY => ?_ | refine AWp.skip ?_ | refine AWp.exit ?_ | refine AWp.ret ?_ | refine Fin.auto [] ?_ | refine runS_c [] (StateHas_yes s p hs) rfl ?_ ?_ ?_ | refine runS_v [] (StateGot_yes c.state p.seq hc hi) ?_ ?_ ?_ ?_ ?_ | refine AWp.draw (id := 4) tok mixed pl_marksT_drop0 [0, 8, 9, 10] [0, 4, 5, 7] (by kernel_rfl) (by kernel_rfl) (by rw [hnt]; rfl) ?_ | refine effS_c [] (StateHas_yes s p hs) rfl ?_ ?_ ?_ | refine effS_v [] (StateGot_yes c.state p.seq hc hi) ?_ ?_ ?_ ?_ ?_ | ((first | apply gR | apply gC | apply gT | apply gE) <;> intro hq <;> (try simp only [nT, nF, n1, n0] at hq) <;> (have hb := hq) <;> (try simp only [dT, dF, eT, eF] at hb) <;> first | (exfalso; omega) | ((try simp only [hq]); clear hq))) <;> (try simp only [go_sem, qa, qb, qc, qd, qe, qf, qg, qh, qi, qj, qk, ql, qm, qn, qo, qp, qq, qr, qs, reduceIte, reduceCtorEq, hb0])) | refine Fits.of ?_ ?_ | (refine aL ?_ (fun hp => ?_) <;> ((try simp only [rowSet_fI hp, rowSet_fI2 hp]); (try simp only [rowSet_fB hp]))) | refine aE ?_ fun hp => ?_ | refine aC ?_ fun hp => ?_ | refine And.intro ?_ ?_ | clear hK K | clear hX hY X Y | clear hL L)
      all_goals try omega
      all_goals (rw [Bool.eq_iff_iff]; simp <;> omega)
  · refine CallX.of tok Tryz.func121 rfl rfl Tryz.ntmps121 Tryz.results121 rfl (by decide) (fun cx hnt hk0 => ?_)
    repeat' (first | refine AWp.seq fun K hK => ?_ | refine hK _ ?_; clear hK K | refine hX ?_; clear hX hY X Y | refine hY ?_; clear hX hY X Y | refine AWp.block ?_ | refine hL _ _ ?_ | ((first | refine AWp.region tok (by rw [hnt]; rfl) ?_ | refine AWp.cond' fun X Y hX hY => ?_ | refine AWp.skip ?_ | refine AWp.exit ?_ | refine AWp.ret ?_ | refine Fin.auto [] ?_ | refine AWp.draw (id := 4) tok mixed pl_marksT_drop0 [] [0, 4, 5, 7] (by kernel_rfl) (by kernel_rfl) (by rw [hnt]; rfl) ?_ | ((first | apply gR | apply gC | apply gT | apply gE) <;> intro hq <;> (try simp only [nT, nF, n1, n0] at hq) <;> (have hb := hq) <;> (try simp only [dT, dF, eT, eF] at hb) <;> first | (exfalso; omega) | ((try simp only [hq]); clear hq))) <;> (try simp only [go_sem, qa, qb, qc, qd, qe, qf, qg, qh, qi, qj, qk, ql, qm, qn, qo, qp, qq, qr, qs, reduceIte, reduceCtorEq])) | refine Fits.of ?_ ?_ | (refine aL ?_ (fun hp => ?_) <;> ((try simp only [rowSet_fI hp, rowSet_fI2 hp]); (try simp only [rowSet_fB hp]))) | refine aE ?_ fun hp => ?_ | refine aC ?_ fun hp => ?_ | refine And.intro ?_ ?_ | clear hK K | clear hX hY X Y | clear hL L)
    all_goals try omega
    all_goals (rw [Bool.eq_iff_iff]; simp <;> omega)
theorem refund_ok (c : Chain) (seq : Int) (hb1 : c.bank.ok = true) (h1 : 1 ≤ seq ∧ seq ≤ c.state.sent.length) (h2 : c.state.back.length = c.state.sent.length) (h3 : c.state.sent.length ≤ 8) (hp : (c.sentAt seq).ok = true) :
    Call Tryz.prog 124 [.c (.ptr 0 0 0 0), I seq] (linkH c 0 1) 8 (.tup []) (linkH { c with bank := c.bank.refund (c.sentAt seq), state := { c.state with back := c.state.back.set (seq - 1).toNat true } } 0 8) 15 := by
  obtain ⟨a1, a2, a3, a4, a5, a6, a7⟩ := packet_iff.1 hp
  obtain ⟨q1, q2, q3, q4, q5⟩ := bank_ok hb1
  have q6 := parts_len q1
  have q7 := parts_len q2
  have q8 := parts_all q1
  have hg : c.bank.giveB (c.sentAt seq).kind (c.sentAt seq).src (c.sentAt seq).sum = c.bank.backB (c.sentAt seq).kind (c.sentAt seq).src (c.sentAt seq).sum := by
    unfold Bank.giveB
    rw [hb1, In_iff.2 a2, In_iff.2 a3, decide_eq_true (show 0 ≤ (c.sentAt seq).sum by omega), decide_eq_true (show (c.sentAt seq).sum ≤ 30 by omega)]
    rfl
  unfold Bank.refund Bank.back
  have es : c.state.sent.getD (seq - 1).toNat default = c.sentAt seq := rfl
  cases hB : c.bank.backB (c.sentAt seq).kind (c.sentAt seq).src (c.sentAt seq).sum
  · rw [hB] at hg
    refine CallX.of tok Tryz.func124 rfl rfl Tryz.ntmps124 Tryz.results124 rfl (by decide) (fun cx hnt hk0 => ?_)
    
    repeat' (first | refine AWp.seq fun K hK => ?_ | refine hK _ ?_; clear hK K | refine hX ?_; clear hX hY X Y | refine hY ?_; clear hX hY X Y | refine AWp.block ?_ | refine hL _ _ ?_ | ((first | refine AWp.region tok (by rw [hnt]; rfl) ?_ | refine AWp.cond' fun X Y hX hY => ?_ | refine AWp.skip ?_ | refine AWp.exit ?_ | refine AWp.ret ?_ | refine Fin.auto [] ?_ | refine runS_v [] (iBankBack_no c.bank _ _ _ (by omega) (by omega) (by omega) hg) ?_ ?_ ?_ ?_ ?_ | refine AWp.draw (id := 2) tok mixed pl_marksT_drop1 [0, 8] [0, 4] (by kernel_rfl) (by kernel_rfl) (by rw [hnt]; rfl) ?_ | refine effS_v [] (iBankBack_no c.bank _ _ _ (by omega) (by omega) (by omega) hg) ?_ ?_ ?_ ?_ ?_ | ((first | apply gR | apply gC | apply gT | apply gE) <;> intro hq <;> (try simp only [nT, nF, n1, n0] at hq) <;> (have hb := hq) <;> (try simp only [dT, dF, eT, eF] at hb) <;> first | (exfalso; omega) | ((try simp only [hq]); clear hq))) <;> (try simp only [go_sem, qa, qb, qc, qd, qe, qf, qg, qh, qi, qj, qk, ql, qm, qn, qo, qp, qq, qr, qs, reduceIte, reduceCtorEq, es, Bool.false_eq_true, if_false])) | refine Fits.of ?_ ?_ | (refine aL ?_ (fun hp => ?_) <;> ((try simp only [rowSet_fI hp, rowSet_fI2 hp]); (try simp only [rowSet_fB hp]))) | refine aE ?_ fun hp => ?_ | refine aC ?_ fun hp => ?_ | refine And.intro ?_ ?_ | clear hK K | clear hX hY X Y | clear hL L)
    all_goals try omega
  · rw [hB] at hg
    refine CallX.of tok Tryz.func124 rfl rfl Tryz.ntmps124 Tryz.results124 rfl (by decide) (fun cx hnt hk0 => ?_)
    
    repeat' (first | refine AWp.seq fun K hK => ?_ | refine hK _ ?_; clear hK K | refine hX ?_; clear hX hY X Y | refine hY ?_; clear hX hY X Y | refine AWp.block ?_ | refine hL _ _ ?_ | ((first | refine AWp.region tok (by rw [hnt]; rfl) ?_ | refine AWp.cond' fun X Y hX hY => ?_ | refine AWp.skip ?_ | refine AWp.exit ?_ | refine AWp.ret ?_ | refine Fin.auto [] ?_ | refine runS_v [] (iBankBack_yes c.bank _ _ _ (by omega) (by omega) (by omega) hg) ?_ ?_ ?_ ?_ ?_ | refine AWp.draw (id := 2) tok mixed pl_marksT_drop1 [0, 8] [0, 4] (by kernel_rfl) (by kernel_rfl) (by rw [hnt]; rfl) ?_ | refine effS_v [] (iBankBack_yes c.bank _ _ _ (by omega) (by omega) (by omega) hg) ?_ ?_ ?_ ?_ ?_ | ((first | apply gR | apply gC | apply gT | apply gE) <;> intro hq <;> (try simp only [nT, nF, n1, n0] at hq) <;> (have hb := hq) <;> (try simp only [dT, dF, eT, eF] at hb) <;> first | (exfalso; omega) | ((try simp only [hq]); clear hq))) <;> (try simp only [go_sem, qa, qb, qc, qd, qe, qf, qg, qh, qi, qj, qk, ql, qm, qn, qo, qp, qq, qr, qs, reduceIte, reduceCtorEq, es, if_true])) | refine Fits.of ?_ ?_ | (refine aL ?_ (fun hp => ?_) <;> ((try simp only [rowSet_fI hp, rowSet_fI2 hp]); (try simp only [rowSet_fB hp]))) | refine aE ?_ fun hp => ?_ | refine aC ?_ fun hp => ?_ | refine And.intro ?_ ?_ | clear hK K | clear hX hY X Y | clear hL L)
    all_goals try omega
end Go.Hw
