/- What is proved here: parts W40, W41 of the walk of the law and of its plain side; no condition but those that each theorem states. -/
import Derived.Test.YtcbceacjhmblnaaGreatA3
/- What is proved: maps of three amounts, and what the program does with them. -/
set_option linter.all false
set_option maxRecDepth 100000
set_option maxHeartbeats 4000000
namespace Go.Hw
open Go.Proofs
open Nat renaming reduceDiv → qa, reduceMod → qb, reduceAdd → qc, reduceMul → qd, reduceSub → qe, reduceLeDiff → qf, reduceBEq → qg, reduceEqDiff → qh, reduceBeqDiff → qi, reduceLT → qj
open Int renaming reduceToNat → qk, reduceAdd → ql, reduceSub → qm, reduceNeg → qn, reduceLT → qo, reduceLE → qp, reduceEq → qq, reduceBEq → qr, reduceBNe → qs
open Go.Hw renaming runG_split → gR, condG_split → gC, takG_split → gT, effG_split → gE
/-- The amounts of users 1, 2, .. in a map. -/
def mEs : Nat → List Int → List MapEntry
  | _, [] => []
  | i, v :: r => { key := .int .i64 ((i : Int) + 1), val := .int .i64 v, born := i } :: mEs (i + 1) r
def mE (l : List Int) : Array MapEntry := ⟨mEs 0 l⟩
abbrev mapO (l : List Int) : AObj := .raw (.map (mE l) l.length)
@[go_sem] theorem mE_nil : AObj.raw (.map #[] 0) = mapO [] := rfl
@[go_sem] theorem mE_list (l : List Int) : (mE l).toList = mEs 0 l := rfl
@[go_sem] theorem mE_keys (i : Nat) (l : List Int) : intKeys (mEs i l) = true := by
  induction l generalizing i with
  | nil => rfl
  | cons v r ih => simpa [mEs, intKeys, isI64] using ih (i + 1)
theorem fdI_mEs (k : Int) (l : List Int) (i j : Nat) : fdI k (mEs i l) j = if (i : Int) + 1 ≤ k ∧ k ≤ i + l.length then some (j + (k - i - 1).toNat, .int .i64 (l.getD (k - i - 1).toNat 0)) else none := by
  induction l generalizing i j with
  | nil => simp only [mEs, fdI, List.length_nil]; rw [if_neg (by omega)]
  | cons v r ih =>
    simp only [mEs, fdI, List.length_cons]
    by_cases h : k = (i : Int) + 1
    · subst h
      rw [if_pos (by omega)]
      have : ((i : Int) + 1 - i - 1).toNat = 0 := by omega
      simp [this]
    · simp only [h, decide_false, cond_false]
      rw [ih]
      by_cases h2 : (i : Int) + 1 ≤ k ∧ k ≤ i + (r.length + 1 : Nat)
      · rw [if_pos (by omega), if_pos h2]
        have e : (k - i - 1).toNat = (k - (i + 1 : Nat) - 1).toNat + 1 := by omega
        rw [e, List.getD_cons_succ]
        have e2 : j + 1 + (k - (i + 1 : Nat) - 1).toNat = j + ((k - (i + 1 : Nat) - 1).toNat + 1) := by omega
        rw [e2]
      · rw [if_neg (by omega), if_neg h2]
theorem some_mE {l : List Int} {k : Int} (h1 : 1 ≤ k) (h2 : k ≤ l.length) : (fdI k (mEs 0 l) 0).isSome = true := by
  rw [fdI_mEs, if_pos (by omega)]; rfl
theorem lk_mE {l : List Int} {k : Int} (h1 : 1 ≤ k) (h2 : k ≤ l.length) : lkI k (mEs 0 l) = l.getD (k - 1).toNat 0 := by
  unfold lkI
  rw [fdI_mEs, if_pos (by omega)]
  have : (k - (0 : Nat) - 1).toNat = (k - 1).toNat := by omega
  rw [this]
theorem mEs_set (l : List Int) (n i : Nat) (v : Int) (h : n < l.length) : (mEs i l).modify n (fun e => { e with key := .int .i64 ((i + n : Nat) + 1), val := .int .i64 v }) = mEs i (l.set n v) := by
  induction l generalizing n i with
  | nil => simp at h
  | cons w r ih =>
    cases n with
    | zero => simp [mEs]
    | succ n =>
      have := ih n (i + 1) (by simpa using h)
      simp only [mEs, List.modify_succ_cons, List.set_cons_succ]
      rw [← this]
      have e : i + (n + 1) = i + 1 + n := by omega
      rw [e]
theorem upd_mE {l : List Int} {k v : Int} (h1 : 1 ≤ k) (h2 : k ≤ l.length) : updM (mE l) l.length k v = .map (mE (l.set (k - 1).toNat v)) l.length := by
  unfold updM
  rw [mE_list, fdI_mEs, if_pos (by omega)]
  have e : 0 + (k - (0 : Nat) - 1).toNat = (k - 1).toNat := by omega
  rw [e]
  have := mEs_set l (k - 1).toNat 0 v (by omega)
  show Obj.map ((mE l).modify _ _) _ = _
  congr 1
  apply Array.ext'
  rw [Array.toList_modify, mE_list, mE_list, ← this]
  congr 1
  funext e
  have : ((0 + (k - 1).toNat : Nat) : Int) + 1 = k := by omega
  rw [this]
theorem upd_mE_new {l : List Int} {k v : Int} (h : k = l.length + 1) : updM (mE l) l.length k v = .map (mE (l ++ [v])) (l.length + 1) := by
  unfold updM
  rw [mE_list, fdI_mEs, if_neg (by omega)]
  show Obj.map ((mE l).push _) _ = _
  congr 1
  apply Array.ext'
  rw [Array.toList_push, mE_list, mE_list, h]
  have : ∀ (l : List Int) (i : Nat), mEs i (l ++ [v]) = mEs i l ++ [{ key := .int .i64 ((i + l.length : Nat) + 1), val := .int .i64 v, born := i + l.length }] := by
    intro l
    induction l with
    | nil => intro i; simp [mEs]
    | cons w r ih =>
      intro i
      simp only [List.cons_append, mEs, ih, List.length_cons]
      have e : i + 1 + r.length = i + (r.length + 1) := by omega
      rw [e]
  rw [this]; simp
@[go_sem] theorem upd_m0 (a : Int) : updM (mE []) 0 1 a = .map (mE [a]) 1 := upd_mE_new (l := []) rfl
@[go_sem] theorem upd_m1 (a b : Int) : updM (mE [a]) 1 2 b = .map (mE [a, b]) 2 := upd_mE_new (l := [a]) rfl
@[go_sem] theorem upd_m2 (a b c : Int) : updM (mE [a, b]) 2 3 c = .map (mE [a, b, c]) 3 := upd_mE_new (l := [a, b]) rfl
@[go_sem] theorem lk_m1 (a b c : Int) : lkI 1 (mEs 0 [a, b, c]) = a := lk_mE (l := [a, b, c]) (by omega) (by simp)
@[go_sem] theorem lk_m2 (a b c : Int) : lkI 2 (mEs 0 [a, b, c]) = b := lk_mE (l := [a, b, c]) (by omega) (by simp)
@[go_sem] theorem lk_m3 (a b c : Int) : lkI 3 (mEs 0 [a, b, c]) = c := lk_mE (l := [a, b, c]) (by omega) (by simp)
@[go_sem] theorem sm_m1 (a b c : Int) : (fdI 1 (mEs 0 [a, b, c]) 0).isSome = true := some_mE (l := [a, b, c]) (by omega) (by simp)
@[go_sem] theorem sm_m2 (a b c : Int) : (fdI 2 (mEs 0 [a, b, c]) 0).isSome = true := some_mE (l := [a, b, c]) (by omega) (by simp)
@[go_sem] theorem sm_m3 (a b c : Int) : (fdI 3 (mEs 0 [a, b, c]) 0).isSome = true := some_mE (l := [a, b, c]) (by omega) (by simp)

@[go_sem] theorem row3_0 (x y z v : Int) : rowSet (fI [x, y, z]) 0 0 [.t (.v (.int .i64 v))] = fI [v, y, z] := rowSet_fI (by simp)
@[go_sem] theorem row3_1 (x y z v : Int) : rowSet (fI [x, y, z]) 1 0 [.t (.v (.int .i64 v))] = fI [x, v, z] := rowSet_fI (by simp)
@[go_sem] theorem row3_2 (x y z v : Int) : rowSet (fI [x, y, z]) 2 0 [.t (.v (.int .i64 v))] = fI [x, y, v] := rowSet_fI (by simp)
@[go_sem] theorem rep3 (v : Int) : fI (List.replicate 3 v) = fI [v, v, v] := rfl

theorem userOk_ok (n : Int) : Call Tryz.prog 47 [I n] [] 0 (.o (BB (In n 1 3))) [] 0 := by
  refine CallX.of tok Tryz.func47 rfl rfl Tryz.ntmps47 Tryz.results47 rfl (by decide) (fun cx hnt hk0 => ?_)
  repeat' (first | refine AWp.seq fun K hK => ?_ | refine hK _ ?_; clear hK K | refine hX ?_; clear hX hY X Y | refine hY ?_; clear hX hY X Y | refine AWp.block ?_ | refine hL _ _ ?_ | ((first | refine AWp.region tok (by rw [hnt]; rfl) ?_ | refine AWp.cond' fun X Y hX hY => ?_ | refine AWp.skip ?_ | refine AWp.exit ?_ | refine AWp.ret ?_ | refine Fin.auto [] ?_ | ((first | apply gR | apply gC) <;> intro hq <;> (try simp only [nT, nF, n1, n0] at hq) <;> (have hb := hq) <;> (try simp only [dT, dF, eT, eF] at hb) <;> first | (exfalso; omega) | ((try simp only [hq]); clear hq))) <;> (try simp only [go_sem, qa, qb, qc, qd, qe, qf, qg, qh, qi, qj, qk, ql, qm, qn, qo, qp, qq, qr, qs, reduceIte, reduceCtorEq])) | refine Fits.of ?_ ?_ | (refine aL ?_ (fun hp => ?_) <;> ((try simp only [rowSet_fI hp, rowSet_fI2 hp]); (try simp only [rowSet_fB hp]))) | refine aE ?_ fun hp => ?_ | refine aC ?_ fun hp => ?_ | refine And.intro ?_ ?_ | clear hK K | clear hX hY X Y | clear hL L)
  all_goals simp [In, *]
theorem ownCoins_ok (n : Int) : Call Tryz.prog 116 [.g [.mp 0, .mp 1, ci n]] [] 2 (.o (.c (.mp 0))) [] 2 := by
  refine CallX.of tok Tryz.func116 rfl rfl Tryz.ntmps116 Tryz.results116 rfl (by decide) (fun cx hnt hk0 => ?_)
  repeat' (first | refine AWp.seq fun K hK => ?_ | refine hK _ ?_; clear hK K | refine hX ?_; clear hX hY X Y | refine hY ?_; clear hX hY X Y | refine AWp.block ?_ | refine hL _ _ ?_ | ((first | refine AWp.region tok (by rw [hnt]; rfl) ?_ | refine AWp.cond' fun X Y hX hY => ?_ | refine AWp.skip ?_ | refine AWp.exit ?_ | refine AWp.ret ?_ | refine Fin.auto [] ?_ | ((first | apply gR | apply gC) <;> intro hq <;> (try simp only [nT, nF, n1, n0] at hq) <;> (have hb := hq) <;> (try simp only [dT, dF, eT, eF] at hb) <;> first | (exfalso; omega) | ((try simp only [hq]); clear hq))) <;> (try simp only [go_sem, qa, qb, qc, qd, qe, qf, qg, qh, qi, qj, qk, ql, qm, qn, qo, qp, qq, qr, qs, reduceIte, reduceCtorEq])) | refine Fits.of ?_ ?_ | (refine aL ?_ (fun hp => ?_) <;> ((try simp only [rowSet_fI hp, rowSet_fI2 hp]); (try simp only [rowSet_fB hp]))) | refine aE ?_ fun hp => ?_ | refine aC ?_ fun hp => ?_ | refine And.intro ?_ ?_ | clear hK K | clear hX hY X Y | clear hL L)
theorem noteCoins_ok (n : Int) : Call Tryz.prog 117 [.g [.mp 0, .mp 1, ci n]] [] 2 (.o (.c (.mp 1))) [] 2 := by
  refine CallX.of tok Tryz.func117 rfl rfl Tryz.ntmps117 Tryz.results117 rfl (by decide) (fun cx hnt hk0 => ?_)
  repeat' (first | refine AWp.seq fun K hK => ?_ | refine hK _ ?_; clear hK K | refine hX ?_; clear hX hY X Y | refine hY ?_; clear hX hY X Y | refine AWp.block ?_ | refine hL _ _ ?_ | ((first | refine AWp.region tok (by rw [hnt]; rfl) ?_ | refine AWp.cond' fun X Y hX hY => ?_ | refine AWp.skip ?_ | refine AWp.exit ?_ | refine AWp.ret ?_ | refine Fin.auto [] ?_ | ((first | apply gR | apply gC) <;> intro hq <;> (try simp only [nT, nF, n1, n0] at hq) <;> (have hb := hq) <;> (try simp only [dT, dF, eT, eF] at hb) <;> first | (exfalso; omega) | ((try simp only [hq]); clear hq))) <;> (try simp only [go_sem, qa, qb, qc, qd, qe, qf, qg, qh, qi, qj, qk, ql, qm, qn, qo, qp, qq, qr, qs, reduceIte, reduceCtorEq])) | refine Fits.of ?_ ?_ | (refine aL ?_ (fun hp => ?_) <;> ((try simp only [rowSet_fI hp, rowSet_fI2 hp]); (try simp only [rowSet_fB hp]))) | refine aE ?_ fun hp => ?_ | refine aC ?_ fun hp => ?_ | refine And.intro ?_ ?_ | clear hK K | clear hX hY X Y | clear hL L)
theorem coinsOf_own (kind : Int) (h : kind = 1) : Call Tryz.prog 86 [I kind] [] 0 (.tup [.c (.t (.v (.func (.func 116) #[] #[]))), BB true]) [] 0 := by
  refine CallX.of tok Tryz.func86 rfl rfl Tryz.ntmps86 Tryz.results86 rfl (by decide) (fun cx hnt hk0 => ?_)
  repeat' (first | refine AWp.seq fun K hK => ?_ | refine hK _ ?_; clear hK K | refine hX ?_; clear hX hY X Y | refine hY ?_; clear hX hY X Y | refine AWp.block ?_ | refine hL _ _ ?_ | ((first | refine AWp.region tok (by rw [hnt]; rfl) ?_ | refine AWp.cond' fun X Y hX hY => ?_ | refine AWp.skip ?_ | refine AWp.exit ?_ | refine AWp.ret ?_ | refine Fin.auto [] ?_ | ((first | apply gR | apply gC) <;> intro hq <;> (try simp only [nT, nF, n1, n0] at hq) <;> (have hb := hq) <;> (try simp only [dT, dF, eT, eF] at hb) <;> first | (exfalso; omega) | ((try simp only [hq]); clear hq))) <;> (try simp only [go_sem, qa, qb, qc, qd, qe, qf, qg, qh, qi, qj, qk, ql, qm, qn, qo, qp, qq, qr, qs, reduceIte, reduceCtorEq])) | refine Fits.of ?_ ?_ | (refine aL ?_ (fun hp => ?_) <;> ((try simp only [rowSet_fI hp, rowSet_fI2 hp]); (try simp only [rowSet_fB hp]))) | refine aE ?_ fun hp => ?_ | refine aC ?_ fun hp => ?_ | refine And.intro ?_ ?_ | clear hK K | clear hX hY X Y | clear hL L)
theorem coinsOf_note (kind : Int) (h : kind = 2) : Call Tryz.prog 86 [I kind] [] 0 (.tup [.c (.t (.v (.func (.func 117) #[] #[]))), BB true]) [] 0 := by
  refine CallX.of tok Tryz.func86 rfl rfl Tryz.ntmps86 Tryz.results86 rfl (by decide) (fun cx hnt hk0 => ?_)
  repeat' (first | refine AWp.seq fun K hK => ?_ | refine hK _ ?_; clear hK K | refine hX ?_; clear hX hY X Y | refine hY ?_; clear hX hY X Y | refine AWp.block ?_ | refine hL _ _ ?_ | ((first | refine AWp.region tok (by rw [hnt]; rfl) ?_ | refine AWp.cond' fun X Y hX hY => ?_ | refine AWp.skip ?_ | refine AWp.exit ?_ | refine AWp.ret ?_ | refine Fin.auto [] ?_ | ((first | apply gR | apply gC) <;> intro hq <;> (try simp only [nT, nF, n1, n0] at hq) <;> (have hb := hq) <;> (try simp only [dT, dF, eT, eF] at hb) <;> first | (exfalso; omega) | ((try simp only [hq]); clear hq))) <;> (try simp only [go_sem, qa, qb, qc, qd, qe, qf, qg, qh, qi, qj, qk, ql, qm, qn, qo, qp, qq, qr, qs, reduceIte, reduceCtorEq])) | refine Fits.of ?_ ?_ | (refine aL ?_ (fun hp => ?_) <;> ((try simp only [rowSet_fI hp, rowSet_fI2 hp]); (try simp only [rowSet_fB hp]))) | refine aE ?_ fun hp => ?_ | refine aC ?_ fun hp => ?_ | refine And.intro ?_ ?_ | clear hK K | clear hX hY X Y | clear hL L)
theorem coinsOf_none (kind : Int) (h : In kind 1 2 = false) : Call Tryz.prog 86 [I kind] [] 0 (.tup [.c (.t (.v .nilFunc)), BB false]) [] 0 := by
  have h' : ¬ (1 ≤ kind ∧ kind ≤ 2) := by rw [← In_iff, h]; simp
  refine CallX.of tok Tryz.func86 rfl rfl Tryz.ntmps86 Tryz.results86 rfl (by decide) (fun cx hnt hk0 => ?_)
  repeat' (first | refine AWp.seq fun K hK => ?_ | refine hK _ ?_; clear hK K | refine hX ?_; clear hX hY X Y | refine hY ?_; clear hX hY X Y | refine AWp.block ?_ | refine hL _ _ ?_ | ((first | refine AWp.region tok (by rw [hnt]; rfl) ?_ | refine AWp.cond' fun X Y hX hY => ?_ | refine AWp.skip ?_ | refine AWp.exit ?_ | refine AWp.ret ?_ | refine Fin.auto [] ?_ | ((first | apply gR | apply gC) <;> intro hq <;> (try simp only [nT, nF, n1, n0] at hq) <;> (have hb := hq) <;> (try simp only [dT, dF, eT, eF] at hb) <;> first | (exfalso; omega) | ((try simp only [hq]); clear hq))) <;> (try simp only [go_sem, qa, qb, qc, qd, qe, qf, qg, qh, qi, qj, qk, ql, qm, qn, qo, qp, qq, qr, qs, reduceIte, reduceCtorEq])) | refine Fits.of ?_ ?_ | (refine aL ?_ (fun hp => ?_) <;> ((try simp only [rowSet_fI hp, rowSet_fI2 hp]); (try simp only [rowSet_fB hp]))) | refine aE ?_ fun hp => ?_ | refine aC ?_ fun hp => ?_ | refine And.intro ?_ ?_ | clear hK K | clear hX hY X Y | clear hL L)
theorem amountMap_ok (a b c : Int) : Call Tryz.prog 118 [.c (.t (intsT [a, b, c]))] [] 0 (.o (.c (.mp 0))) [(0, mapO [a, b, c])] 1 := by
  refine CallX.of tok Tryz.func118 rfl rfl Tryz.ntmps118 Tryz.results118 rfl (by decide) (fun cx hnt hk0 => ?_)
  repeat' (first | refine AWp.seq fun K hK => ?_ | refine hK _ ?_; clear hK K | refine hX ?_; clear hX hY X Y | refine hY ?_; clear hX hY X Y | refine AWp.block ?_ | refine hL _ _ ?_ | ((first | refine AWp.region tok (by rw [hnt]; rfl) ?_ | refine AWp.cond' fun X Y hX hY => ?_ | refine AWp.skip ?_ | refine AWp.exit ?_ | refine AWp.ret ?_ | refine Fin.auto [] ?_ | ((first | apply gR | apply gC) <;> intro hq <;> (try simp only [nT, nF, n1, n0] at hq) <;> (have hb := hq) <;> (try simp only [dT, dF, eT, eF] at hb) <;> first | (exfalso; omega) | ((try simp only [hq]); clear hq))) <;> (try simp only [go_sem, qa, qb, qc, qd, qe, qf, qg, qh, qi, qj, qk, ql, qm, qn, qo, qp, qq, qr, qs, reduceIte, reduceCtorEq])) | refine Fits.of ?_ ?_ | (refine aL ?_ (fun hp => ?_) <;> ((try simp only [rowSet_fI hp, rowSet_fI2 hp]); (try simp only [rowSet_fB hp]))) | refine aE ?_ fun hp => ?_ | refine aC ?_ fun hp => ?_ | refine And.intro ?_ ?_ | clear hK K | clear hX hY X Y | clear hL L)
  refine AWp.loopN 4 fun L hL => ?_
  repeat' (first | refine AWp.seq fun K hK => ?_ | refine hK _ ?_; clear hK K | refine hX ?_; clear hX hY X Y | refine hY ?_; clear hX hY X Y | refine AWp.block ?_ | refine hL _ _ ?_ | ((first | refine AWp.region tok (by rw [hnt]; rfl) ?_ | refine AWp.cond' fun X Y hX hY => ?_ | refine AWp.skip ?_ | refine AWp.exit ?_ | refine AWp.ret ?_ | refine Fin.auto [] ?_ | ((first | apply gR | apply gC) <;> intro hq <;> (try simp only [nT, nF, n1, n0] at hq) <;> (have hb := hq) <;> (try simp only [dT, dF, eT, eF] at hb) <;> first | (exfalso; omega) | ((try simp only [hq]); clear hq))) <;> (try simp only [go_sem, qa, qb, qc, qd, qe, qf, qg, qh, qi, qj, qk, ql, qm, qn, qo, qp, qq, qr, qs, reduceIte, reduceCtorEq])) | refine Fits.of ?_ ?_ | (refine aL ?_ (fun hp => ?_) <;> ((try simp only [rowSet_fI hp, rowSet_fI2 hp]); (try simp only [rowSet_fB hp]))) | refine aE ?_ fun hp => ?_ | refine aC ?_ fun hp => ?_ | refine And.intro ?_ ?_ | clear hK K | clear hX hY X Y | clear hL L)
  all_goals try omega
theorem amountList_ok (a b c : Int) : Call Tryz.prog 119 [.c (.mp 0)] [(0, mapO [a, b, c])] 1 (.o (.c (.sl 1 1 0 3))) [(0, mapO [a, b, c]), (1, rI [a, b, c])] 2 := by
  refine CallX.of tok Tryz.func119 rfl rfl Tryz.ntmps119 Tryz.results119 rfl (by decide) (fun cx hnt hk0 => ?_)
  repeat' (first | refine AWp.seq fun K hK => ?_ | refine hK _ ?_; clear hK K | refine hX ?_; clear hX hY X Y | refine hY ?_; clear hX hY X Y | refine AWp.block ?_ | refine hL _ _ ?_ | ((first | refine AWp.region tok (by rw [hnt]; rfl) ?_ | refine AWp.cond' fun X Y hX hY => ?_ | refine AWp.skip ?_ | refine AWp.exit ?_ | refine AWp.ret ?_ | refine Fin.auto [] ?_ | ((first | apply gR | apply gC) <;> intro hq <;> (try simp only [nT, nF, n1, n0] at hq) <;> (have hb := hq) <;> (try simp only [dT, dF, eT, eF] at hb) <;> first | (exfalso; omega) | ((try simp only [hq]); clear hq))) <;> (try simp only [go_sem, qa, qb, qc, qd, qe, qf, qg, qh, qi, qj, qk, ql, qm, qn, qo, qp, qq, qr, qs, reduceIte, reduceCtorEq])) | refine Fits.of ?_ ?_ | (refine aL ?_ (fun hp => ?_) <;> ((try simp only [rowSet_fI hp, rowSet_fI2 hp]); (try simp only [rowSet_fB hp]))) | refine aE ?_ fun hp => ?_ | refine aC ?_ fun hp => ?_ | refine And.intro ?_ ?_ | clear hK K | clear hX hY X Y | clear hL L)
  refine AWp.loopN 4 fun L hL => ?_
  repeat' (first | refine AWp.seq fun K hK => ?_ | refine hK _ ?_; clear hK K | refine hX ?_; clear hX hY X Y | refine hY ?_; clear hX hY X Y | refine AWp.block ?_ | refine hL _ _ ?_ | ((first | refine AWp.region tok (by rw [hnt]; rfl) ?_ | refine AWp.cond' fun X Y hX hY => ?_ | refine AWp.skip ?_ | refine AWp.exit ?_ | refine AWp.ret ?_ | refine Fin.auto [] ?_ | ((first | apply gR | apply gC) <;> intro hq <;> (try simp only [nT, nF, n1, n0] at hq) <;> (have hb := hq) <;> (try simp only [dT, dF, eT, eF] at hb) <;> first | (exfalso; omega) | ((try simp only [hq]); clear hq))) <;> (try simp only [go_sem, qa, qb, qc, qd, qe, qf, qg, qh, qi, qj, qk, ql, qm, qn, qo, qp, qq, qr, qs, reduceIte, reduceCtorEq])) | refine Fits.of ?_ ?_ | (refine aL ?_ (fun hp => ?_) <;> ((try simp only [rowSet_fI hp, rowSet_fI2 hp]); (try simp only [rowSet_fB hp]))) | refine aE ?_ fun hp => ?_ | refine aC ?_ fun hp => ?_ | refine And.intro ?_ ?_ | clear hK K | clear hX hY X Y | clear hL L)
  all_goals try omega
end Go.Hw
/- What is proved: what the program finds of a bank and does to it. -/
set_option linter.all false
set_option maxRecDepth 100000
set_option maxHeartbeats 4000000
namespace Go.Hw
open Go.Proofs
open Nat renaming reduceDiv → qa, reduceMod → qb, reduceAdd → qc, reduceMul → qd, reduceSub → qe, reduceLeDiff → qf, reduceBEq → qg, reduceEqDiff → qh, reduceBeqDiff → qi, reduceLT → qj
open Int renaming reduceToNat → qk, reduceAdd → ql, reduceSub → qm, reduceNeg → qn, reduceLT → qo, reduceLE → qp, reduceEq → qq, reduceBEq → qr, reduceBNe → qs
open Go.Hw renaming runG_split → gR, condG_split → gC, takG_split → gT, effG_split → gE
def pl_len30 : Plan := (.all (.cons 0 (.all (.cons 1 (.all (.cons 2 (.all (.cons 3 (.all (.cons 4 .done .nil)) .nil)) (.cons 3 (.all (.cons 2 (.all (.cons 4 .done .nil)) .nil)) .nil))) (.cons 3 (.all (.cons 1 (.all (.cons 2 (.all (.cons 4 .done .nil)) .nil)) .nil)) .nil))) (.cons 1 (.all (.cons 0 (.all (.cons 2 (.all (.cons 3 (.all (.cons 4 .done .nil)) .nil)) (.cons 3 (.all (.cons 2 (.all (.cons 4 .done .nil)) .nil)) .nil))) (.cons 3 (.all (.cons 0 (.all (.cons 2 (.all (.cons 4 .done .nil)) .nil)) .nil)) .nil))) (.cons 3 (.all (.cons 0 (.all (.cons 1 (.all (.cons 2 (.all (.cons 4 .done .nil)) .nil)) .nil)) (.cons 1 (.all (.cons 0 (.all (.cons 2 (.all (.cons 4 .done .nil)) .nil)) .nil)) .nil))) .nil))))
attribute [go_sem] pl_len30
def pl_len31 : Plan := (.tak 0 (.tak 1 (.tak 3 (.tak 4 (.tak 6 (.tak 7 (.all (.cons 2 (.all (.cons 5 (.all (.cons 8 (.all (.cons 9 .done .nil)) .nil)) .nil)) .nil))))))))
attribute [go_sem] pl_len31
theorem len3 {l : List Int} (h : l.length = 3) : ∃ a b c, l = [a, b, c] := by
  match l, h with
  | [a, b, c], _ => exact ⟨a, b, c, rfl⟩
theorem parts3 (a b c : Int) : parts [a, b, c] = (In a 0 30 && (In b 0 30 && In c 0 30)) := by
  simp [parts, rall, List.range, List.range.loop]
theorem isum3' (a b c : Int) : isum [a, b, c] = a + b + c := by simp [isum]
theorem amountMap_l (l : List Int) (h : l.length = 3) : Call Tryz.prog 118 [.c (.t (intsT l))] [] 0 (.o (.c (.mp 0))) [(0, mapO l)] 1 := by
  obtain ⟨a, b, c, rfl⟩ := len3 h
  exact amountMap_ok a b c
theorem amountList_l (l : List Int) (h : l.length = 3) : Call Tryz.prog 119 [.c (.mp 0)] [(0, mapO l)] 1 (.o (.c (.sl 1 1 0 l.length))) [(0, mapO l), (1, rI l)] 2 := by
  obtain ⟨a, b, c, rfl⟩ := len3 h
  exact amountList_ok a b c
theorem amountTotal_ok (l : List Int) (hn : (l.length : Int) < 1099511627776) : Call Tryz.prog 77 [.c (.t (intsT l))] [] 0 (.tup [I (if parts l then isum l else 0), BB (parts l)]) [] 0 := by
  by_cases h3 : l.length = 3
  · obtain ⟨a, b, c, rfl⟩ := len3 h3
    rw [parts3, isum3']
    by_cases h1 : In a 0 30 = true
    · by_cases h2 : In b 0 30 = true
      · by_cases h3 : In c 0 30 = true
        · rw [In_iff] at h1 h2 h3
          have e : (In a 0 30 && (In b 0 30 && In c 0 30)) = true := by simp [In]; omega
          rw [e]
          refine CallX.of tok Tryz.func77 rfl rfl Tryz.ntmps77 Tryz.results77 rfl (by decide) (fun cx hnt hk0 => ?_)
          repeat' (first | refine AWp.seq fun K hK => ?_ | refine hK _ ?_; clear hK K | refine hX ?_; clear hX hY X Y | refine hY ?_; clear hX hY X Y | refine AWp.block ?_ | refine hL _ _ ?_ | ((first | refine AWp.region tok (by rw [hnt]; rfl) ?_ | refine AWp.cond' fun X Y hX hY => ?_ | refine AWp.skip ?_ | refine AWp.exit ?_ | refine AWp.ret ?_ | refine Fin.auto [] ?_ | ((first | apply gR | apply gC) <;> intro hq <;> (try simp only [nT, nF, n1, n0] at hq) <;> (have hb := hq) <;> (try simp only [dT, dF, eT, eF] at hb) <;> first | (exfalso; omega) | ((try simp only [hq]); clear hq))) <;> (try simp only [go_sem, qa, qb, qc, qd, qe, qf, qg, qh, qi, qj, qk, ql, qm, qn, qo, qp, qq, qr, qs, reduceIte, reduceCtorEq])) | refine Fits.of ?_ ?_ | (refine aL ?_ (fun hp => ?_) <;> ((try simp only [rowSet_fI hp, rowSet_fI2 hp]); (try simp only [rowSet_fB hp]))) | refine aE ?_ fun hp => ?_ | refine aC ?_ fun hp => ?_ | refine And.intro ?_ ?_ | clear hK K | clear hX hY X Y | clear hL L)
          refine AWp.loopN 4 fun L hL => ?_
          repeat' (first | refine AWp.seq fun K hK => ?_ | refine hK _ ?_; clear hK K | refine hX ?_; clear hX hY X Y | refine hY ?_; clear hX hY X Y | refine AWp.block ?_ | refine hL _ _ ?_ | ((first | refine AWp.region tok (by rw [hnt]; rfl) ?_ | refine AWp.cond' fun X Y hX hY => ?_ | refine AWp.skip ?_ | refine AWp.exit ?_ | refine AWp.ret ?_ | refine Fin.auto [] ?_ | ((first | apply gR | apply gC) <;> intro hq <;> (try simp only [nT, nF, n1, n0] at hq) <;> (have hb := hq) <;> (try simp only [dT, dF, eT, eF] at hb) <;> first | (exfalso; omega) | ((try simp only [hq]); clear hq))) <;> (try simp only [go_sem, qa, qb, qc, qd, qe, qf, qg, qh, qi, qj, qk, ql, qm, qn, qo, qp, qq, qr, qs, reduceIte, reduceCtorEq])) | refine Fits.of ?_ ?_ | (refine aL ?_ (fun hp => ?_) <;> ((try simp only [rowSet_fI hp, rowSet_fI2 hp]); (try simp only [rowSet_fB hp]))) | refine aE ?_ fun hp => ?_ | refine aC ?_ fun hp => ?_ | refine And.intro ?_ ?_ | clear hK K | clear hX hY X Y | clear hL L)
          all_goals try omega
          all_goals try (simp; omega)
        · have e : (In a 0 30 && (In b 0 30 && In c 0 30)) = false := by simp [h3]
          rw [e]
          rw [In_iff] at h1 h2 h3
          refine CallX.of tok Tryz.func77 rfl rfl Tryz.ntmps77 Tryz.results77 rfl (by decide) (fun cx hnt hk0 => ?_)
          repeat' (first | refine AWp.seq fun K hK => ?_ | refine hK _ ?_; clear hK K | refine hX ?_; clear hX hY X Y | refine hY ?_; clear hX hY X Y | refine AWp.block ?_ | refine hL _ _ ?_ | ((first | refine AWp.region tok (by rw [hnt]; rfl) ?_ | refine AWp.cond' fun X Y hX hY => ?_ | refine AWp.skip ?_ | refine AWp.exit ?_ | refine AWp.ret ?_ | refine Fin.auto [] ?_ | ((first | apply gR | apply gC) <;> intro hq <;> (try simp only [nT, nF, n1, n0] at hq) <;> (have hb := hq) <;> (try simp only [dT, dF, eT, eF] at hb) <;> first | (exfalso; omega) | ((try simp only [hq]); clear hq))) <;> (try simp only [go_sem, qa, qb, qc, qd, qe, qf, qg, qh, qi, qj, qk, ql, qm, qn, qo, qp, qq, qr, qs, reduceIte, reduceCtorEq])) | refine Fits.of ?_ ?_ | (refine aL ?_ (fun hp => ?_) <;> ((try simp only [rowSet_fI hp, rowSet_fI2 hp]); (try simp only [rowSet_fB hp]))) | refine aE ?_ fun hp => ?_ | refine aC ?_ fun hp => ?_ | refine And.intro ?_ ?_ | clear hK K | clear hX hY X Y | clear hL L)
          refine AWp.loopN 4 fun L hL => ?_
          repeat' (first | refine AWp.seq fun K hK => ?_ | refine hK _ ?_; clear hK K | refine hX ?_; clear hX hY X Y | refine hY ?_; clear hX hY X Y | refine AWp.block ?_ | refine hL _ _ ?_ | ((first | refine AWp.region tok (by rw [hnt]; rfl) ?_ | refine AWp.cond' fun X Y hX hY => ?_ | refine AWp.skip ?_ | refine AWp.exit ?_ | refine AWp.ret ?_ | refine Fin.auto [] ?_ | ((first | apply gR | apply gC) <;> intro hq <;> (try simp only [nT, nF, n1, n0] at hq) <;> (have hb := hq) <;> (try simp only [dT, dF, eT, eF] at hb) <;> first | (exfalso; omega) | ((try simp only [hq]); clear hq))) <;> (try simp only [go_sem, qa, qb, qc, qd, qe, qf, qg, qh, qi, qj, qk, ql, qm, qn, qo, qp, qq, qr, qs, reduceIte, reduceCtorEq])) | refine Fits.of ?_ ?_ | (refine aL ?_ (fun hp => ?_) <;> ((try simp only [rowSet_fI hp, rowSet_fI2 hp]); (try simp only [rowSet_fB hp]))) | refine aE ?_ fun hp => ?_ | refine aC ?_ fun hp => ?_ | refine And.intro ?_ ?_ | clear hK K | clear hX hY X Y | clear hL L)
          all_goals try omega
          all_goals try (simp; omega)
      · have e : (In a 0 30 && (In b 0 30 && In c 0 30)) = false := by simp [h2]
        rw [e]
        rw [In_iff] at h1 h2
        refine CallX.of tok Tryz.func77 rfl rfl Tryz.ntmps77 Tryz.results77 rfl (by decide) (fun cx hnt hk0 => ?_)
        repeat' (first | refine AWp.seq fun K hK => ?_ | refine hK _ ?_; clear hK K | refine hX ?_; clear hX hY X Y | refine hY ?_; clear hX hY X Y | refine AWp.block ?_ | refine hL _ _ ?_ | ((first | refine AWp.region tok (by rw [hnt]; rfl) ?_ | refine AWp.cond' fun X Y hX hY => ?_ | refine AWp.skip ?_ | refine AWp.exit ?_ | refine AWp.ret ?_ | refine Fin.auto [] ?_ | ((first | apply gR | apply gC) <;> intro hq <;> (try simp only [nT, nF, n1, n0] at hq) <;> (have hb := hq) <;> (try simp only [dT, dF, eT, eF] at hb) <;> first | (exfalso; omega) | ((try simp only [hq]); clear hq))) <;> (try simp only [go_sem, qa, qb, qc, qd, qe, qf, qg, qh, qi, qj, qk, ql, qm, qn, qo, qp, qq, qr, qs, reduceIte, reduceCtorEq])) | refine Fits.of ?_ ?_ | (refine aL ?_ (fun hp => ?_) <;> ((try simp only [rowSet_fI hp, rowSet_fI2 hp]); (try simp only [rowSet_fB hp]))) | refine aE ?_ fun hp => ?_ | refine aC ?_ fun hp => ?_ | refine And.intro ?_ ?_ | clear hK K | clear hX hY X Y | clear hL L)
        refine AWp.loopN 4 fun L hL => ?_
        repeat' (first | refine AWp.seq fun K hK => ?_ | refine hK _ ?_; clear hK K | refine hX ?_; clear hX hY X Y | refine hY ?_; clear hX hY X Y | refine AWp.block ?_ | refine hL _ _ ?_ | ((first | refine AWp.region tok (by rw [hnt]; rfl) ?_ | refine AWp.cond' fun X Y hX hY => ?_ | refine AWp.skip ?_ | refine AWp.exit ?_ | refine AWp.ret ?_ | refine Fin.auto [] ?_ | ((first | apply gR | apply gC) <;> intro hq <;> (try simp only [nT, nF, n1, n0] at hq) <;> (have hb := hq) <;> (try simp only [dT, dF, eT, eF] at hb) <;> first | (exfalso; omega) | ((try simp only [hq]); clear hq))) <;> (try simp only [go_sem, qa, qb, qc, qd, qe, qf, qg, qh, qi, qj, qk, ql, qm, qn, qo, qp, qq, qr, qs, reduceIte, reduceCtorEq])) | refine Fits.of ?_ ?_ | (refine aL ?_ (fun hp => ?_) <;> ((try simp only [rowSet_fI hp, rowSet_fI2 hp]); (try simp only [rowSet_fB hp]))) | refine aE ?_ fun hp => ?_ | refine aC ?_ fun hp => ?_ | refine And.intro ?_ ?_ | clear hK K | clear hX hY X Y | clear hL L)
        all_goals try omega
        all_goals try (simp; omega)
    · have e : (In a 0 30 && (In b 0 30 && In c 0 30)) = false := by simp [h1]
      rw [e]
      rw [In_iff] at h1
      refine CallX.of tok Tryz.func77 rfl rfl Tryz.ntmps77 Tryz.results77 rfl (by decide) (fun cx hnt hk0 => ?_)
      repeat' (first | refine AWp.seq fun K hK => ?_ | refine hK _ ?_; clear hK K | refine hX ?_; clear hX hY X Y | refine hY ?_; clear hX hY X Y | refine AWp.block ?_ | refine hL _ _ ?_ | ((first | refine AWp.region tok (by rw [hnt]; rfl) ?_ | refine AWp.cond' fun X Y hX hY => ?_ | refine AWp.skip ?_ | refine AWp.exit ?_ | refine AWp.ret ?_ | refine Fin.auto [] ?_ | ((first | apply gR | apply gC) <;> intro hq <;> (try simp only [nT, nF, n1, n0] at hq) <;> (have hb := hq) <;> (try simp only [dT, dF, eT, eF] at hb) <;> first | (exfalso; omega) | ((try simp only [hq]); clear hq))) <;> (try simp only [go_sem, qa, qb, qc, qd, qe, qf, qg, qh, qi, qj, qk, ql, qm, qn, qo, qp, qq, qr, qs, reduceIte, reduceCtorEq])) | refine Fits.of ?_ ?_ | (refine aL ?_ (fun hp => ?_) <;> ((try simp only [rowSet_fI hp, rowSet_fI2 hp]); (try simp only [rowSet_fB hp]))) | refine aE ?_ fun hp => ?_ | refine aC ?_ fun hp => ?_ | refine And.intro ?_ ?_ | clear hK K | clear hX hY X Y | clear hL L)
      refine AWp.loopN 4 fun L hL => ?_
      repeat' (first | refine AWp.seq fun K hK => ?_ | refine hK _ ?_; clear hK K | refine hX ?_; clear hX hY X Y | refine hY ?_; clear hX hY X Y | refine AWp.block ?_ | refine hL _ _ ?_ | ((first | refine AWp.region tok (by rw [hnt]; rfl) ?_ | refine AWp.cond' fun X Y hX hY => ?_ | refine AWp.skip ?_ | refine AWp.exit ?_ | refine AWp.ret ?_ | refine Fin.auto [] ?_ | ((first | apply gR | apply gC) <;> intro hq <;> (try simp only [nT, nF, n1, n0] at hq) <;> (have hb := hq) <;> (try simp only [dT, dF, eT, eF] at hb) <;> first | (exfalso; omega) | ((try simp only [hq]); clear hq))) <;> (try simp only [go_sem, qa, qb, qc, qd, qe, qf, qg, qh, qi, qj, qk, ql, qm, qn, qo, qp, qq, qr, qs, reduceIte, reduceCtorEq])) | refine Fits.of ?_ ?_ | (refine aL ?_ (fun hp => ?_) <;> ((try simp only [rowSet_fI hp, rowSet_fI2 hp]); (try simp only [rowSet_fB hp]))) | refine aE ?_ fun hp => ?_ | refine aC ?_ fun hp => ?_ | refine And.intro ?_ ?_ | clear hK K | clear hX hY X Y | clear hL L)
      all_goals try omega
      all_goals try (simp; omega)
  · have e : parts l = false := by
      cases hp : parts l with
      | false => rfl
      | true => exact absurd (parts_len hp) h3
    rw [e]
    refine CallX.of tok Tryz.func77 rfl rfl Tryz.ntmps77 Tryz.results77 rfl (by decide) (fun cx hnt hk0 => ?_)
    repeat' (first | refine AWp.seq fun K hK => ?_ | refine hK _ ?_; clear hK K | refine hX ?_; clear hX hY X Y | refine hY ?_; clear hX hY X Y | refine AWp.block ?_ | refine hL _ _ ?_ | ((first | refine AWp.region tok (by rw [hnt]; rfl) ?_ | refine AWp.cond' fun X Y hX hY => ?_ | refine AWp.skip ?_ | refine AWp.exit ?_ | refine AWp.ret ?_ | refine Fin.auto [] ?_ | ((first | apply gR | apply gC) <;> intro hq <;> (try simp only [nT, nF, n1, n0] at hq) <;> (have hb := hq) <;> (try simp only [dT, dF, eT, eF] at hb) <;> first | (exfalso; omega) | ((try simp only [hq]); clear hq))) <;> (try simp only [go_sem, qa, qb, qc, qd, qe, qf, qg, qh, qi, qj, qk, ql, qm, qn, qo, qp, qq, qr, qs, reduceIte, reduceCtorEq])) | refine Fits.of ?_ ?_ | (refine aL ?_ (fun hp => ?_) <;> ((try simp only [rowSet_fI hp, rowSet_fI2 hp]); (try simp only [rowSet_fB hp]))) | refine aE ?_ fun hp => ?_ | refine aC ?_ fun hp => ?_ | refine And.intro ?_ ?_ | clear hK K | clear hX hY X Y | clear hL L)
    all_goals try omega
theorem iBankOk_ok (b : Bank) (hn : (b.own.length : Int) < 1099511627776) (hm : (b.notes.length : Int) < 1099511627776) (hl : b.locked < 1099511627776) : Call Tryz.prog 76 [b.av] [] 0 (.o (BB b.ok)) [] 0 := by
  by_cases h1 : parts b.own = true
  · have s1 := parts_all h1
    by_cases h2 : parts b.notes = true
    · have s2 := parts_all h2
      refine CallX.of tok Tryz.func76 rfl rfl Tryz.ntmps76 Tryz.results76 rfl (by decide) (fun cx hnt hk0 => ?_)
      repeat' (first | refine AWp.seq fun K hK => ?_ | refine hK _ ?_; clear hK K | refine hX ?_; clear hX hY X Y | refine hY ?_; clear hX hY X Y | refine AWp.block ?_ | refine hL _ _ ?_ | ((first | refine AWp.region tok (by rw [hnt]; rfl) ?_ | refine AWp.cond' fun X Y hX hY => ?_ | refine AWp.skip ?_ | refine AWp.exit ?_ | refine AWp.ret ?_ | refine Fin.auto [] ?_ | refine runS_c [] (amountTotal_ok b.own hn) rfl ?_ ?_ ?_ | refine runS_c [] (amountTotal_ok b.notes hm) rfl ?_ ?_ ?_ | ((first | apply gR | apply gC) <;> intro hq <;> (try simp only [nT, nF, n1, n0] at hq) <;> (have hb := hq) <;> (try simp only [dT, dF, eT, eF] at hb) <;> first | (exfalso; omega) | ((try simp only [hq]); clear hq))) <;> (try simp only [go_sem, qa, qb, qc, qd, qe, qf, qg, qh, qi, qj, qk, ql, qm, qn, qo, qp, qq, qr, qs, reduceIte, reduceCtorEq, h1, h2, if_true])) | refine Fits.of ?_ ?_ | (refine aL ?_ (fun hp => ?_) <;> ((try simp only [rowSet_fI hp, rowSet_fI2 hp]); (try simp only [rowSet_fB hp]))) | refine aE ?_ fun hp => ?_ | refine aC ?_ fun hp => ?_ | refine And.intro ?_ ?_ | clear hK K | clear hX hY X Y | clear hL L)
      all_goals try omega
      all_goals (rw [Bool.eq_iff_iff]; simp [Bank.ok, h1, h2]; omega)
    · have h2 : parts b.notes = false := by simpa using h2
      refine CallX.of tok Tryz.func76 rfl rfl Tryz.ntmps76 Tryz.results76 rfl (by decide) (fun cx hnt hk0 => ?_)
      repeat' (first | refine AWp.seq fun K hK => ?_ | refine hK _ ?_; clear hK K | refine hX ?_; clear hX hY X Y | refine hY ?_; clear hX hY X Y | refine AWp.block ?_ | refine hL _ _ ?_ | ((first | refine AWp.region tok (by rw [hnt]; rfl) ?_ | refine AWp.cond' fun X Y hX hY => ?_ | refine AWp.skip ?_ | refine AWp.exit ?_ | refine AWp.ret ?_ | refine Fin.auto [] ?_ | refine runS_c [] (amountTotal_ok b.own hn) rfl ?_ ?_ ?_ | refine runS_c [] (amountTotal_ok b.notes hm) rfl ?_ ?_ ?_ | ((first | apply gR | apply gC) <;> intro hq <;> (try simp only [nT, nF, n1, n0] at hq) <;> (have hb := hq) <;> (try simp only [dT, dF, eT, eF] at hb) <;> first | (exfalso; omega) | ((try simp only [hq]); clear hq))) <;> (try simp only [go_sem, qa, qb, qc, qd, qe, qf, qg, qh, qi, qj, qk, ql, qm, qn, qo, qp, qq, qr, qs, reduceIte, reduceCtorEq, h1, h2, if_true])) | refine Fits.of ?_ ?_ | (refine aL ?_ (fun hp => ?_) <;> ((try simp only [rowSet_fI hp, rowSet_fI2 hp]); (try simp only [rowSet_fB hp]))) | refine aE ?_ fun hp => ?_ | refine aC ?_ fun hp => ?_ | refine And.intro ?_ ?_ | clear hK K | clear hX hY X Y | clear hL L)
      all_goals simp [Bank.ok, h2]
  · have h1 : parts b.own = false := by simpa using h1
    refine CallX.of tok Tryz.func76 rfl rfl Tryz.ntmps76 Tryz.results76 rfl (by decide) (fun cx hnt hk0 => ?_)
    repeat' (first | refine AWp.seq fun K hK => ?_ | refine hK _ ?_; clear hK K | refine hX ?_; clear hX hY X Y | refine hY ?_; clear hX hY X Y | refine AWp.block ?_ | refine hL _ _ ?_ | ((first | refine AWp.region tok (by rw [hnt]; rfl) ?_ | refine AWp.cond' fun X Y hX hY => ?_ | refine AWp.skip ?_ | refine AWp.exit ?_ | refine AWp.ret ?_ | refine Fin.auto [] ?_ | refine runS_c [] (amountTotal_ok b.own hn) rfl ?_ ?_ ?_ | refine runS_c [] (amountTotal_ok b.notes hm) rfl ?_ ?_ ?_ | ((first | apply gR | apply gC) <;> intro hq <;> (try simp only [nT, nF, n1, n0] at hq) <;> (have hb := hq) <;> (try simp only [dT, dF, eT, eF] at hb) <;> first | (exfalso; omega) | ((try simp only [hq]); clear hq))) <;> (try simp only [go_sem, qa, qb, qc, qd, qe, qf, qg, qh, qi, qj, qk, ql, qm, qn, qo, qp, qq, qr, qs, reduceIte, reduceCtorEq, h1, if_true])) | refine Fits.of ?_ ?_ | (refine aL ?_ (fun hp => ?_) <;> ((try simp only [rowSet_fI hp, rowSet_fI2 hp]); (try simp only [rowSet_fB hp]))) | refine aE ?_ fun hp => ?_ | refine aC ?_ fun hp => ?_ | refine And.intro ?_ ?_ | clear hK K | clear hX hY X Y | clear hL L)
    all_goals simp [Bank.ok, h1]
theorem iBankNew_ok : Call Tryz.prog 80 [] [] 0 (.o (.g (bankA Bank.new 0))) (bankH Bank.new 0) 2 := by
  refine CallX.of tok Tryz.func80 rfl rfl Tryz.ntmps80 Tryz.results80 rfl (by decide) (fun cx hnt hk0 => ?_)
  repeat' (first | refine AWp.seq fun K hK => ?_ | refine hK _ ?_; clear hK K | refine hX ?_; clear hX hY X Y | refine hY ?_; clear hX hY X Y | refine AWp.block ?_ | refine hL _ _ ?_ | ((first | refine AWp.region tok (by rw [hnt]; rfl) ?_ | refine AWp.cond' fun X Y hX hY => ?_ | refine AWp.skip ?_ | refine AWp.exit ?_ | refine AWp.ret ?_ | refine Fin.auto [] ?_ | refine AWp.draw (id := 1) tok mixed pl_len30 [] [] (by kernel_rfl) (by kernel_rfl) (by rw [hnt]; rfl) ?_ | ((first | apply gR | apply gC | apply gT | apply gE) <;> intro hq <;> (try simp only [nT, nF, n1, n0] at hq) <;> (have hb := hq) <;> (try simp only [dT, dF, eT, eF] at hb) <;> first | (exfalso; omega) | ((try simp only [hq]); clear hq))) <;> (try simp only [go_sem, qa, qb, qc, qd, qe, qf, qg, qh, qi, qj, qk, ql, qm, qn, qo, qp, qq, qr, qs, reduceIte, reduceCtorEq, Bank.new])) | refine Fits.of ?_ ?_ | (refine aL ?_ (fun hp => ?_) <;> ((try simp only [rowSet_fI hp, rowSet_fI2 hp]); (try simp only [rowSet_fB hp]))) | refine aE ?_ fun hp => ?_ | refine aC ?_ fun hp => ?_ | refine And.intro ?_ ?_ | clear hK K | clear hX hY X Y | clear hL L)
  all_goals refine AWp.loopN 4 fun L hL => ?_
  repeat' (first | refine AWp.seq fun K hK => ?_ | refine hK _ ?_; clear hK K | refine hX ?_; clear hX hY X Y | refine hY ?_; clear hX hY X Y | refine AWp.block ?_ | refine hL _ _ ?_ | ((first | refine AWp.region tok (by rw [hnt]; rfl) ?_ | refine AWp.cond' fun X Y hX hY => ?_ | refine AWp.skip ?_ | refine AWp.exit ?_ | refine AWp.ret ?_ | refine Fin.auto [] ?_ | refine AWp.draw (id := 1) tok mixed pl_len30 [] [] (by kernel_rfl) (by kernel_rfl) (by rw [hnt]; rfl) ?_ | ((first | apply gR | apply gC | apply gT | apply gE) <;> intro hq <;> (try simp only [nT, nF, n1, n0] at hq) <;> (have hb := hq) <;> (try simp only [dT, dF, eT, eF] at hb) <;> first | (exfalso; omega) | ((try simp only [hq]); clear hq))) <;> (try simp only [go_sem, qa, qb, qc, qd, qe, qf, qg, qh, qi, qj, qk, ql, qm, qn, qo, qp, qq, qr, qs, reduceIte, reduceCtorEq, Bank.new])) | refine Fits.of ?_ ?_ | (refine aL ?_ (fun hp => ?_) <;> ((try simp only [rowSet_fI hp, rowSet_fI2 hp]); (try simp only [rowSet_fB hp]))) | refine aE ?_ fun hp => ?_ | refine aC ?_ fun hp => ?_ | refine And.intro ?_ ?_ | clear hK K | clear hX hY X Y | clear hL L)
  all_goals try omega
theorem ledgerOf_ok (b : Bank) (h1 : b.own.length = 3) (h2 : b.notes.length = 3) : Call Tryz.prog 87 [b.av] [] 0 (.o (.g [.mp 0, .mp 1, ci b.locked])) [(0, mapO b.own), (1, mapO b.notes)] 2 := by
  refine CallX.of tok Tryz.func87 rfl rfl Tryz.ntmps87 Tryz.results87 rfl (by decide) (fun cx hnt hk0 => ?_)
  
  repeat' (first | refine AWp.seq fun K hK => ?_ | refine hK _ ?_; clear hK K | refine hX ?_; clear hX hY X Y | refine hY ?_; clear hX hY X Y | refine AWp.block ?_ | refine hL _ _ ?_ | ((first | refine AWp.region tok (by rw [hnt]; rfl) ?_ | refine AWp.cond' fun X Y hX hY => ?_ | refine AWp.skip ?_ | refine AWp.exit ?_ | refine AWp.ret ?_ | refine Fin.auto [] ?_ | refine runS_c [] (amountMap_l b.own h1) rfl ?_ ?_ ?_ | refine runS_c [] (amountMap_l b.notes h2) rfl ?_ ?_ ?_ | refine AWp.draw (id := 1) tok mixed pl_len31 [0] [1, 2] (by kernel_rfl) (by kernel_rfl) (by rw [hnt]; rfl) ?_ | refine effS_c [] (amountMap_l b.own h1) rfl ?_ ?_ ?_ | refine effS_c [] (amountMap_l b.notes h2) rfl ?_ ?_ ?_ | ((first | apply gR | apply gC | apply gT | apply gE) <;> intro hq <;> (try simp only [nT, nF, n1, n0] at hq) <;> (have hb := hq) <;> (try simp only [dT, dF, eT, eF] at hb) <;> first | (exfalso; omega) | ((try simp only [hq]); clear hq))) <;> (try simp only [go_sem, qa, qb, qc, qd, qe, qf, qg, qh, qi, qj, qk, ql, qm, qn, qo, qp, qq, qr, qs, reduceIte, reduceCtorEq])) | refine Fits.of ?_ ?_ | (refine aL ?_ (fun hp => ?_) <;> ((try simp only [rowSet_fI hp, rowSet_fI2 hp]); (try simp only [rowSet_fB hp]))) | refine aE ?_ fun hp => ?_ | refine aC ?_ fun hp => ?_ | refine And.intro ?_ ?_ | clear hK K | clear hX hY X Y | clear hL L)
theorem ledgerBank_ok (b : Bank) (h1 : b.own.length = 3) (h2 : b.notes.length = 3) : Call Tryz.prog 88 [.g [.mp 0, .mp 1, ci b.locked]] [(0, mapO b.own), (1, mapO b.notes)] 2 (.o (.g (bankA b 2))) (bankH b 2) 4 := by
  refine CallX.of tok Tryz.func88 rfl rfl Tryz.ntmps88 Tryz.results88 rfl (by decide) (fun cx hnt hk0 => ?_)
  
  repeat' (first | refine AWp.seq fun K hK => ?_ | refine hK _ ?_; clear hK K | refine hX ?_; clear hX hY X Y | refine hY ?_; clear hX hY X Y | refine AWp.block ?_ | refine hL _ _ ?_ | ((first | refine AWp.region tok (by rw [hnt]; rfl) ?_ | refine AWp.cond' fun X Y hX hY => ?_ | refine AWp.skip ?_ | refine AWp.exit ?_ | refine AWp.ret ?_ | refine Fin.auto [] ?_ | refine runS_c [0] (amountList_l b.own h1) rfl ?_ ?_ ?_ | refine runS_c [1] (amountList_l b.notes h2) rfl ?_ ?_ ?_ | refine AWp.draw (id := 1) tok mixed pl_len31 [2] [1, 2] (by kernel_rfl) (by kernel_rfl) (by rw [hnt]; rfl) ?_ | refine effS_c [0] (amountList_l b.own h1) rfl ?_ ?_ ?_ | refine effS_c [1] (amountList_l b.notes h2) rfl ?_ ?_ ?_ | ((first | apply gR | apply gC | apply gT | apply gE) <;> intro hq <;> (try simp only [nT, nF, n1, n0] at hq) <;> (have hb := hq) <;> (try simp only [dT, dF, eT, eF] at hb) <;> first | (exfalso; omega) | ((try simp only [hq]); clear hq))) <;> (try simp only [go_sem, qa, qb, qc, qd, qe, qf, qg, qh, qi, qj, qk, ql, qm, qn, qo, qp, qq, qr, qs, reduceIte, reduceCtorEq])) | refine Fits.of ?_ ?_ | (refine aL ?_ (fun hp => ?_) <;> ((try simp only [rowSet_fI hp, rowSet_fI2 hp]); (try simp only [rowSet_fB hp]))) | refine aE ?_ fun hp => ?_ | refine aC ?_ fun hp => ?_ | refine And.intro ?_ ?_ | clear hK K | clear hX hY X Y | clear hL L)
end Go.Hw
