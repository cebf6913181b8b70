/- What is proved here: parts W60, W61 of the walk of the law and of its plain side; no condition but those that each theorem states. -/
import Derived.Test.YtcbceacjhmblnaaGreatE11
import Derived.Test.YtcbceacjhmblnaaGreatC7
import Derived.Test.YtcbceacjhmblnaaGreatB6
import Derived.Test.YtcbceacjhmblnaaGreatA4
import Derived.Test.YtcbceacjhmblnaaGreatRows
import Derived.ProofKit
/- What is proved: what each law over plays begins with; one knows just what was; no end is open to one that did not begin. -/
set_option linter.all false
set_option maxRecDepth 100000
set_option maxHeartbeats 8000000
namespace Go.Hw
open Go.Proofs
open Nat renaming reduceDiv → qa, reduceMod → qb, reduceAdd → qc, reduceMul → qd, reduceSub → qe, reduceLeDiff → qf, reduceBEq → qg, reduceEqDiff → qh, reduceBeqDiff → qi, reduceLT → qj
open Int renaming reduceToNat → qk, reduceAdd → ql, reduceSub → qm, reduceNeg → qn, reduceLT → qo, reduceLE → qp, reduceEq → qq, reduceBEq → qr, reduceBNe → qs
open Go.Hw renaming runG_split → gR, condG_split → gC, takG_split → gT, effG_split → gE
theorem state_fit {s : State} (h : s.ok = true) : s.fit := by
  obtain ⟨r1, r2, r3, r4, r5, r6, r7, r8, r9⟩ := state_ok h
  exact ⟨by omega, by omega, by omega, by omega⟩
theorem chain_fit {c : Chain} (h : c.ok = true) : c.fit := by
  obtain ⟨q1, q2, q3, q4, q5, q6⟩ := chain_ok h
  obtain ⟨b1, b2, b3, b4, b5⟩ := bank_ok q2
  have b6 := parts_len b1
  have b7 := parts_len b2
  have q7 := knows_len q6
  refine ⟨by omega, by omega, state_fit q3, fun i => ?_, by omega, by omega⟩
  by_cases hi : i < c.past.length
  · exact state_fit (q5 i hi)
  · rw [getD_len (by omega)]; exact ⟨by decide, by decide, by decide, by decide⟩
theorem default_fit : (default : Chain).fit :=
  ⟨by decide, by decide, ⟨by decide, by decide, by decide, by decide⟩, fun i => by rw [getD_len (show (default : Chain).past.length ≤ i from Nat.zero_le _)]; exact ⟨by decide, by decide, by decide, by decide⟩, by decide, by decide⟩
theorem two_fit {w : Two} (h : wOk w.list = true) (i : Nat) : (w.list.getD i default).fit := by
  obtain ⟨h1, h2, _⟩ := wOk_iff.1 h
  match i with
  | 0 => exact chain_fit h1
  | 1 => exact chain_fit h2
  | i + 2 => rw [getD_len (by simp [Two.list])]; exact default_fit
theorem nil_fit (i : Nat) : (([] : List Chain).getD i default).fit := by
  rw [getD_len (by simp)]; exact default_fit
theorem FnWorldOpen_ok (l : List Int) (hb0 : ∀ i, 0 ≤ l.getD i 0 ∧ l.getD i 0 ≤ 255) : Call Tryz.prog 5 [.c (.t (bytesT l))] [] 0 (.o (BB true)) [] 0 := by
  by_cases hlen : (l.length : Int) ≤ 1048576
  · refine CallX.of tok Tryz.func5 rfl rfl Tryz.ntmps5 Tryz.results5 rfl (by decide) (fun cx hnt hk0 => ?_)
    repeat' (first | refine AWp.seq fun K hK => ?_ | refine hK _ ?_; clear hK K | refine hX ?_; clear hX hY X Y | refine hY ?_; clear hX hY X Y | refine AWp.block ?_ | refine hL _ _ ?_ | ((first | refine AWp.region tok (by rw [hnt]; rfl) ?_ | refine AWp.cond' fun X Y hX hY => ?_ | refine AWp.skip ?_ | refine AWp.exit ?_ | refine AWp.ret ?_ | refine Fin.auto [] ?_ | refine runS_at [] (DrawWorldPlay_ok l hb0 hlen) rfl ?_ ?_ (fun es hes => ?_) | ((first | apply gR | apply gC) <;> intro hq <;> (try simp only [nT, nF, n1, n0] at hq) <;> (have hb := hq) <;> (try simp only [dT, dF, eT, eF] at hb) <;> first | (exfalso; omega) | ((try simp only [hq]); clear hq))) <;> (try simp only [go_sem, qa, qb, qc, qd, qe, qf, qg, qh, qi, qj, qk, ql, qm, qn, qo, qp, qq, qr, qs, reduceIte, reduceCtorEq])) | refine Fits.of ?_ ?_ | (refine aL ?_ (fun hp => ?_) <;> ((try simp only [rowSet_fI hp, rowSet_fI2 hp]); (try simp only [rowSet_fB hp]))) | refine aE ?_ fun hp => ?_ | refine aC ?_ fun hp => ?_ | refine And.intro ?_ ?_ | clear hK K | clear hX hY X Y | clear hL L)
    all_goals try omega
    by_cases h60 : es.length ≤ 60
    · have I := winv_play es
      have cL := lwWorld_ok (Two.new.play es).list (Two.new.play es).list (two_fit I.ok) (by simp [Two.list])
      have e1 := I.ab.opn
      have e2 := I.ba.opn
      rw [decide_eq_true rfl] at cL
      repeat' (first | refine AWp.seq fun K hK => ?_ | refine hK _ ?_; clear hK K | refine hX ?_; clear hX hY X Y | refine hY ?_; clear hX hY X Y | refine AWp.block ?_ | refine hL _ _ ?_ | ((first | refine AWp.region tok (by rw [hnt]; rfl) ?_ | refine AWp.cond' fun X Y hX hY => ?_ | refine AWp.skip ?_ | refine AWp.exit ?_ | refine AWp.ret ?_ | refine Fin.auto [] ?_ | refine runS_c [] (iWorldPlay_ok es h60) rfl ?_ ?_ ?_ | refine runS_c [] (WorldPlay_ok es h60) rfl ?_ ?_ ?_ | refine runS_c [] (cL) rfl ?_ ?_ ?_ | ((first | apply gR | apply gC) <;> intro hq <;> (try simp only [nT, nF, n1, n0] at hq) <;> (have hb := hq) <;> (try simp only [dT, dF, eT, eF] at hb) <;> first | (exfalso; omega) | ((try simp only [hq]); clear hq))) <;> (try simp only [go_sem, qa, qb, qc, qd, qe, qf, qg, qh, qi, qj, qk, ql, qm, qn, qo, qp, qq, qr, qs, reduceIte, reduceCtorEq])) | refine Fits.of ?_ ?_ | (refine aL ?_ (fun hp => ?_) <;> ((try simp only [rowSet_fI hp, rowSet_fI2 hp]); (try simp only [rowSet_fB hp]))) | refine aE ?_ fun hp => ?_ | refine aC ?_ fun hp => ?_ | refine And.intro ?_ ?_ | clear hK K | clear hX hY X Y | clear hL L)
      all_goals try omega
      refine AWp.loopN 3 fun L hL => ?_
      repeat' (first | refine AWp.seq fun K hK => ?_ | refine hK _ ?_; clear hK K | refine hX ?_; clear hX hY X Y | refine hY ?_; clear hX hY X Y | refine AWp.block ?_ | refine hL _ _ ?_ | ((first | refine AWp.region tok (by rw [hnt]; rfl) ?_ | refine AWp.cond' fun X Y hX hY => ?_ | refine AWp.skip ?_ | refine AWp.exit ?_ | refine AWp.ret ?_ | refine Fin.auto [] ?_ | ((first | apply gR | apply gC) <;> intro hq <;> (try simp only [nT, nF, n1, n0] at hq) <;> (have hb := hq) <;> (try simp only [dT, dF, eT, eF] at hb) <;> first | (exfalso; omega) | ((try simp only [hq]); clear hq))) <;> (try simp only [go_sem, qa, qb, qc, qd, qe, qf, qg, qh, qi, qj, qk, ql, qm, qn, qo, qp, qq, qr, qs, reduceIte, reduceCtorEq, Two.list, List.getD_cons_succ])) | refine Fits.of ?_ ?_ | (refine aL ?_ (fun hp => ?_) <;> ((try simp only [rowSet_fI hp, rowSet_fI2 hp]); (try simp only [rowSet_fB hp]))) | refine aE ?_ fun hp => ?_ | refine aC ?_ fun hp => ?_ | refine And.intro ?_ ?_ | clear hK K | clear hX hY X Y | clear hL L)
      all_goals try omega
    · have cL := lwWorld_ok [] [] nil_fit (by simp)
      rw [decide_eq_true rfl] at cL
      repeat' (first | refine AWp.seq fun K hK => ?_ | refine hK _ ?_; clear hK K | refine hX ?_; clear hX hY X Y | refine hY ?_; clear hX hY X Y | refine AWp.block ?_ | refine hL _ _ ?_ | ((first | refine AWp.region tok (by rw [hnt]; rfl) ?_ | refine AWp.cond' fun X Y hX hY => ?_ | refine AWp.skip ?_ | refine AWp.exit ?_ | refine AWp.ret ?_ | refine Fin.auto [] ?_ | refine runS_c [] (iWorldPlay_no es (by omega)) rfl ?_ ?_ ?_ | refine runS_c [] (WorldPlay_no es (by omega)) rfl ?_ ?_ ?_ | refine runS_c [] (cL) rfl ?_ ?_ ?_ | ((first | apply gR | apply gC) <;> intro hq <;> (try simp only [nT, nF, n1, n0] at hq) <;> (have hb := hq) <;> (try simp only [dT, dF, eT, eF] at hb) <;> first | (exfalso; omega) | ((try simp only [hq]); clear hq))) <;> (try simp only [go_sem, qa, qb, qc, qd, qe, qf, qg, qh, qi, qj, qk, ql, qm, qn, qo, qp, qq, qr, qs, reduceIte, reduceCtorEq])) | refine Fits.of ?_ ?_ | (refine aL ?_ (fun hp => ?_) <;> ((try simp only [rowSet_fI hp, rowSet_fI2 hp]); (try simp only [rowSet_fB hp]))) | refine aE ?_ fun hp => ?_ | refine aC ?_ fun hp => ?_ | refine And.intro ?_ ?_ | clear hK K | clear hX hY X Y | clear hL L)
      all_goals try omega
  · refine CallX.of tok Tryz.func5 rfl rfl Tryz.ntmps5 Tryz.results5 rfl (by decide) (fun cx hnt hk0 => ?_)
    repeat' (first | refine AWp.seq fun K hK => ?_ | refine hK _ ?_; clear hK K | refine hX ?_; clear hX hY X Y | refine hY ?_; clear hX hY X Y | refine AWp.block ?_ | refine hL _ _ ?_ | ((first | refine AWp.region tok (by rw [hnt]; rfl) ?_ | refine AWp.cond' fun X Y hX hY => ?_ | refine AWp.skip ?_ | refine AWp.exit ?_ | refine AWp.ret ?_ | refine Fin.auto [] ?_ | ((first | apply gR | apply gC) <;> intro hq <;> (try simp only [nT, nF, n1, n0] at hq) <;> (have hb := hq) <;> (try simp only [dT, dF, eT, eF] at hb) <;> first | (exfalso; omega) | ((try simp only [hq]); clear hq))) <;> (try simp only [go_sem, qa, qb, qc, qd, qe, qf, qg, qh, qi, qj, qk, ql, qm, qn, qo, qp, qq, qr, qs, reduceIte, reduceCtorEq])) | refine Fits.of ?_ ?_ | (refine aL ?_ (fun hp => ?_) <;> ((try simp only [rowSet_fI hp, rowSet_fI2 hp]); (try simp only [rowSet_fB hp]))) | refine aE ?_ fun hp => ?_ | refine aC ?_ fun hp => ?_ | refine And.intro ?_ ?_ | clear hK K | clear hX hY X Y | clear hL L)
    all_goals try omega
end Go.Hw
/- What is proved: a law of one code answers true to every code, as its row says it. -/
set_option linter.all false
set_option maxRecDepth 100000
set_option maxHeartbeats 4000000
namespace Go.Proofs.YtcbceacjhmblnaaGreat
open Go.ChangeShapes Go.WideShapes Go.ChangeAt Go.RowKit Go.Hw
theorem own : ownKnob Tryz.prog.godebug = none := by kernel_rfl
theorem laidOut : laidOutB Tryz.prog = true := by kernel_rfl
theorem cells5 : Tryz.prog.cellsOf 5 = 1 := by kernel_rfl
/-- A contract over trees, as the row wants it: called in whatever world, it says true and writes nothing that was there. -/
theorem law_below {f : FuncId} {zs : List Int} (hc : Go.Hw.Call Tryz.prog f [.c (.t (bytesT zs))] [] 0 (.o (BB true)) [] 0) (W : World) (a : Option Addr) (cap : Nat) (hcap : zs.length ≤ cap)
    (hcell : ∀ i, i < zs.length → ∃ b o, a = some ⟨b, o, none⟩ ∧ b < W.heap.size ∧ W.cell? ⟨b, o + i, none⟩ = some (.int .u8 (zs.getD i 0))) :
    Calls Tryz.prog f #[.slice a zs.length cap] W fun e W' => e = .returned (.bool true) ∧ Below W.heap.size W W' := by
  obtain ⟨_, _, h⟩ := hc
  refine (h W (fun b => b < W.heap.size) (fun _ => none) #[.slice a zs.length cap] ⟨⟨a, cap, rfl, hcap, fun i hi => ?_⟩, trivial⟩ ⟨fun x hx => (by cases hx), List.Pairwise.nil⟩ (fun _ h => h) (fun _ _ => rfl)).mono ?_
  · obtain ⟨b, o, e1, e2, e3⟩ := hcell i hi
    refine ⟨b, o, e1, e2, fun j hj => ?_⟩
    have : j = 0 := by omega
    subst this
    refine ⟨_, by rw [Nat.mul_one, Nat.add_zero]; exact e3, rfl, rfl⟩
  · rintro e W' ⟨_, v, A', ρ', _, rfl, hv, _, hos, htp, hou, hsz, hold, _⟩
    obtain ⟨rfl, _⟩ := hv
    exact ⟨rfl, ⟨hos, htp, hou, hsz, fun k hk => hold k hk (fun ⟨x, hx, _⟩ => (by cases hx))⟩⟩
theorem bytes_wf (l : List Int) (h : ∀ n ∈ l, (Lit.int .u8 n).wf = true) : ∀ i, 0 ≤ l.getD i 0 ∧ l.getD i 0 ≤ 255 := by
  intro i
  by_cases hi : i < l.length
  · have := h _ (getD_mem (d := 0) hi)
    have h1 : IntKind.u8.min = 0 := rfl
    have h2 : IntKind.u8.max = 255 := rfl
    simp only [Lit.wf, Bool.and_eq_true, decide_eq_true_eq] at this
    omega
  · rw [getD_len (by omega)]; decide
theorem spot_at {W : World} {a : Addr} {v : Value} (h : W.cell? (a.add 0) = some v) : a.spot = none := by
  obtain ⟨b, o, sp⟩ := a
  cases sp with
  | none => rfl
  | some s =>
    exfalso
    unfold World.cell? at h
    split at h
    · simp [Addr.add] at h
    · cases h
theorem cell_at {W : World} {a : Addr} {i : Nat} {v : Value} (hs : a.spot = none) (h : W.cell? (a.add i) = some v) : ∃ b o, some a = some ⟨b, o, none⟩ ∧ b < W.heap.size ∧ W.cell? ⟨b, o + i, none⟩ = some v := by
  obtain ⟨b, o, sp⟩ := a
  simp only at hs
  subst hs
  rw [add_lit] at h
  refine ⟨b, o, rfl, ?_, h⟩
  cases hb : W.heap[b]? with
  | none => simp [World.cell?, hb] at h
  | some x => exact (Array.getElem?_eq_some_iff.1 hb).1
end Go.Proofs.YtcbceacjhmblnaaGreat
