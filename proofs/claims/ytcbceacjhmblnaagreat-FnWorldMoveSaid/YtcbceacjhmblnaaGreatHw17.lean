/- What is proved here: parts Hw17 of the walk of the law and of its plain side; no condition but those that each theorem states. -/
import Derived.Test.YtcbceacjhmblnaaGreatA3
/- What is proved: the rule of a loop over a function that hands on the elements of a row. -/
set_option linter.all false
namespace Go.Hw

theorem cell_box {w : World} {A : Nat → Prop} {ρ : Rho} {H : Heap} (hH : HeapAt w A ρ H) {h : Nat} {bx : List Cell} (hl : look h H = some (.box bx)) {b m : Nat} (hk : ρ h = some (b, m)) {k : Nat} {x : Cell} (hx : bx[k]? = some x) :
    ∃ z, w.cell? ⟨b, k, none⟩ = some z ∧ x.At w A ρ z := by
  obtain ⟨b', m', h1, h2, _, _⟩ := hH.objs _ (look_mem hl) trivial
  rw [hk] at h1; injection h1 with h1; injection h1 with e1 e2; subst e1
  obtain ⟨cs, e, g1, _, g3⟩ := h2
  obtain ⟨z, hz, ha⟩ := All2.get g3 hx
  exact ⟨z, by unfold World.cell?; rw [g1]; simpa using hz, ha⟩

theorem AWp.range {P : Program} {c : Ctx} {Q : Exit → St → Prop} {s : St} {g : FuncId} {fo : Operand} {p : Tmp} {assign body : Code} {hb wd0 i0 j0 : Nat} {wd n sk : Nat} {f : Nat → Nat → TV}
    (hit : IterR P g wd n f sk) (hfn : FnOk P g) (t' : List (Nat × AV)) (H : Nat → Heap) (k1 k2 : Nat) (s1 : Nat → St) {bx : List Cell}
    (hle : SLe c s ⟨t', H 0, k2⟩) (hg : evO ⟨t', H 0, k2⟩ fo = some (.o (.c (.fp false g hb wd0 i0 j0)))) (hbx : look hb (H 0) = some (.box bx)) (hsk : bx[i0 * wd0 + j0 + sk]? = some (.t (.sl wd n f)))
    (hp : Nat.blt p c.nt = true) (hk : c.k0 ≤ k1) (hk2 : k1 ≤ k2) (hold : tOld k1 t')
    (hassign : ∀ i, i < n → ∀ c2 : Ctx, c2.nt = c.nt → c2.k0 = k1 → AWpR P c2 assign (fun e s' => e = .normal ∧ SLe c2 s' (s1 i)) ⟨(p, .o (.g (tab wd 0 fun j => .t (f i j)))) :: t', H i, k2⟩)
    (hbody : ∀ i, i < n → ∀ c2 : Ctx, c2.nt = c.nt → c2.k0 = k1 → AWpR P c2 body (fun e s' => e = .normal ∧ SLe c2 s' ⟨[], H (i + 1), k2⟩) (s1 i))
    (hq : Q .normal ⟨t', H n, k2⟩) : AWp P c (.rangeFunc fo #[p] assign body) Q s := by
  intro a w ha
  obtain ⟨A, ρ, hr⟩ := hle a w ha
  obtain ⟨b, m, hρb, hval⟩ := evO_sound hr hg
  have hval : a.eval fo = .func (.func g) #[] #[.pointer (some ⟨b, i0 * wd0 + j0, none⟩)] := hval
  obtain ⟨sv, hsv, hT⟩ := cell_box hr.heap hbx hρb hsk
  have hT : (TV.sl wd n f).At w A sv := hT
  have hpl : p < c.nt := by simpa using hp
  rw [← wpIn_wide (n := 0)]
  refine wpIn_rangeFunc (fun fn _ => ?_)
  obtain ⟨rec, hrec⟩ : ∃ rec : LoopState → Option Code → Loop, rec = fun st pe => { state := st, pending := pe, fn, tmps := a.tmps, params := #[p], assign, body, defers := w.heap.size } := ⟨_, rfl⟩
  obtain ⟨D, hD⟩ : ∃ D, D = w.heap.size := ⟨_, rfl⟩
  obtain ⟨W1, hW1⟩ : ∃ W1, (w.alloc (.deferred (some []))).alloc (.loop (rec .ready none)) = W1 := ⟨_, rfl⟩
  have g1 : Grew w W1 := hW1 ▸ (Grew.alloc w _).trans (Grew.alloc _ _)
  have hL1 : W1.heap[D + 1]? = some (.loop (rec .ready none)) := by
    rw [← hW1, hD]; have := World.alloc_heap_new (w.alloc (.deferred (some []))) (.loop (rec .ready none)); rwa [World.size_alloc] at this
  have hK1 : W1.heap[D]? = some (.deferred (some [])) := by
    rw [← hW1, hD]
    have h1 : ((w.alloc (.deferred (some []))).alloc (.loop (rec .ready none))).heap[w.heap.size]? = (w.alloc (.deferred (some []))).heap[w.heap.size]? := (Grew.alloc (w.alloc (.deferred (some []))) _).same _ (by simp)
    exact h1.trans (World.alloc_heap_new w _)
  have hlt1 : D + 1 < W1.heap.size := (Array.getElem?_eq_some_iff.1 hL1).1
  have hr1 := hr.grew g1
  have hnA : ∀ b, A b → b < D := fun b hb => hD ▸ (hr.imm b hb).1
  have hnB : ∀ b, blkOf ρ (H 0) b → b < D := by
    rintro b ⟨x, hx, hxr, m, hk⟩
    obtain ⟨b', m', hk', _, _, h6⟩ := hr.heap.objs x hx hxr
    rw [hk] at hk'; injection hk' with hk'; injection hk' with e1 e2; subst e1; exact hD ▸ h6
  have hr2 := hr1.mark hK1 (fun h => Nat.lt_irrefl _ (hnB D h)) (fun h => Nat.lt_irrefl _ (hnA D h)) (Nat.le_trans c.hlo (hD ▸ hr.size)) (hD ▸ hr.size)
  generalize ha1 : ({ a with defers := { target := .collected D, args := #[] } :: a.defers } : Act) = a1 at hr2
  have ha1t : a1.tmps = a.tmps := by rw [← ha1]
  let J : Nat → World → Prop := fun i W => ∃ A' ρ', Rep c ⟨t', H i, k2⟩ a1 W A' ρ' ∧ (∀ b, A b → A' b) ∧ (∀ b, A b → W.heap[b]? = w.heap[b]?) ∧ (i = 0 → W.cell? ⟨b, i0 * wd0 + j0 + sk, none⟩ = some sv) ∧ W.heap[D + 1]? = some (.loop (rec .ready none)) ∧ ¬ blkOf ρ' (H i) (D + 1)
  have hTat : ∀ (W : World) (A' : Nat → Prop), (∀ b, A b → A' b) → (∀ b, A b → W.heap[b]? = w.heap[b]?) → (TV.sl wd n f).At W A' sv := fun W A' h1 h2 => hT.mono h1 h2
  have hJ0 : J 0 W1 := ⟨_, ρ, hr2, fun b hb => .inl hb, fun b hb => g1.same b (hr.imm b hb).1, fun _ => by
      obtain ⟨z, hz, _⟩ := cell_box hr.heap hbx hρb hsk
      have : w.cell? ⟨b, i0 * wd0 + j0 + sk, none⟩ = some sv := hsv
      rw [cell?_of_heap (g1.same b ?_)]; · exact this
      · obtain ⟨b', m', h1, _, _, h6⟩ := hr.heap.objs _ (look_mem hbx) trivial
        rw [hρb] at h1; injection h1 with h1; injection h1 with e1 e2; subst e1; exact h6, hL1, fun h => by have := hnB _ h; omega⟩
  refine ⟨D + 1, [{ target := .collected D, args := #[] }], W1, { target := .fn (.func g) #[.pointer (some ⟨b, i0 * wd0 + j0, none⟩)], args := #[.func (.yield (D + 1)) #[] #[]] }, W1, g,
    #[.func (.yield (D + 1)) #[] #[], .pointer (some ⟨b, i0 * wd0 + j0, none⟩)], W1, ?_, ?_, fun _ _ => trivial, ?_, fun h => by simp [Fence.wide] at h, ?_⟩
  · rw [← hW1, hrec, hD]; exact run_enterLoop_outer _ _ _ _ _
  · simp [resolve, Deferred.ofValue, hval]; rfl
  · simp [invoke, run_callFunc hfn]
  refine (hit (D + 1) b (i0 * wd0 + j0) J W1 sv ?_ ?_ ?_ ?_ hJ0).mono ?_
  · rintro i W W' ⟨A', ρ', h1, h2, h3, h4, h5, h6⟩ gg
    exact ⟨A', ρ', h1.grew gg, h2, fun b hb => (gg.same b (h1.imm b (h2 b hb)).1).trans (h3 b hb), fun e => by
      have hc := h4 e
      have hblt : b < W.heap.size := by
        unfold World.cell? at hc
        cases ho : W.heap[b]? with
        | none => simp [ho] at hc
        | some o => exact (Array.getElem?_eq_some_iff.1 ho).1
      rw [cell?_of_heap (gg.same b hblt)]; exact hc, (gg.same _ (Array.getElem?_eq_some_iff.1 h5).1).trans h5, h6⟩
  · rintro W ⟨A', ρ', h1, h2, h3, h4, h5, h6⟩; exact h4 rfl
  · rintro i W ⟨A', ρ', h1, h2, h3, h4, h5, h6⟩; exact ⟨A', hTat W A' h2 h3⟩
  · -- a round
    rintro i W v ⟨A', ρ', h1, h2, h3, h4, h5, h6⟩ hi hv
    have hlW : D + 1 < W.heap.size := (Array.getElem?_eq_some_iff.1 h5).1
    have hvA := hv A' ρ' (hTat W A' h2 h3)
    have hy := run_yield (P := P) (args := #[v]) h5 (by rw [hrec]; rfl)
    rw [hrec] at hy
    refine ⟨fn, a.tmps.setIfInBounds p v, assign, body, by simpa using hy, roundIn_of_wpIn trivial ?_⟩
    have hb1 := (h1.base (k1 := k1) hk2).put (d := some p) (v := .o (.g (tab wd 0 fun j => .t (f i j)))) (y := v) (fun k e => by injection e with e; subst e; exact hpl) hvA
    have hact : (({ a1 with defers := [] } : Act).put (some p) v) = { tmps := a.tmps.setIfInBounds p v, defers := [] } := by simp [Act.put, ha1t]
    rw [hact] at hb1
    refine wpIn_mono (hassign i hi (nestC W A' ρ' k1 (H i) c.nt) rfl rfl (D + 1) _ W ⟨A', ρ', hb1⟩) ?_
    rintro e a2 W2 ⟨s2, ⟨rfl, hs2⟩, hab⟩
    obtain ⟨A2, ρ2, hr3⟩ := hs2 _ _ hab
    have himm : ∀ b, A' b → b < W.heap.size ∧ ¬ blkOf ρ' (H i) b := h1.nest_imm
    have hr3 := hr3.wide himm
    have hlW2 : W2.heap[D + 1]? = some (.loop (rec .ready none)) := (hr3.frame (D + 1) hlW h6).trans h5
    have hnest := h1.nest hr3 (fun b hb => .inr hb) hk hold
    have hl6 : ¬ blkOf ρ2 (s1 i).h (D + 1) := by
      rintro ⟨x, hx, hxr, m, hk⟩
      rcases hr3.own x hx hxr _ _ hk with h | h
      · exact h6 h
      · have : W.heap.size ≤ D + 1 := h; omega
    refine ⟨_, run_beginRound hlW2 (by rw [hrec]), ?_⟩
    generalize hW3 : W2.putObj (D + 1) (.loop { rec .ready none with state := .busy }) = W3
    have hlo : c.F (D + 1) ∨ c.w0.heap.size ≤ D + 1 := .inr (by have := hr.size; omega)
    have hmk : ∀ {lo : Nat} {AA : Nat → Prop} {ds : List Deferred} {X Y : World} {o' : Obj}, (∃ r, X.heap[D + 1]? = some (.loop r)) → Y = X.putObj (D + 1) o' → Marks lo AA ds X → Marks lo AA ds Y := by
      rintro lo AA ds X Y o' ⟨r, hX⟩ rfl hm
      refine ⟨fun d hd => ?_, hm.apart⟩
      obtain ⟨D', e1, e2, e3, e4⟩ := hm.all d hd
      refine ⟨D', e1, e2, e3, ?_⟩
      rw [World.putObj_heap_other]; · exact e4
      · rintro rfl; rw [hX] at e4; cases e4
    have ht3 := hnest.turn (o' := .loop { rec .ready none with state := .busy }) hlW2 (by simp) hl6 hlo (hmk ⟨_, hlW2⟩ rfl hnest.defers)
    have hc3 : W3.heap[D + 1]? = some (.loop { rec .ready none with state := .busy }) := by rw [← hW3]; exact World.putObj_heap_same (Array.getElem?_eq_some_iff.1 hlW2).1
    have hlW3 : D + 1 < W3.heap.size := (Array.getElem?_eq_some_iff.1 hc3).1
    -- the slots of the round
    have hin : Rep { (nestC W A' ρ' k1 (H i) c.nt) with F := fun b => blkOf ρ' (H i) b ∨ b = D + 1 } (s1 i) a2 W2 (fun b => A2 b ∨ A' b) ρ2 :=
      { heap := hr3.heap, tmps := hr3.tmps, nt := hr3.nt, defers := hr3.defers, os := hr3.os, tape := hr3.tape, output := hr3.output, size := hr3.size, frame := fun b hb hF => hr3.frame b hb (fun h => hF (.inl h)), own := fun x hx hxr b m hk => by rcases hr3.own x hx hxr b m hk with h | h; exact .inl (.inl h); exact .inr h,
        imm := fun b hb => ⟨(hr3.imm b hb).1, by rcases (hr3.imm b hb).2 with h | h | h; exact .inl h; exact .inr (.inl (.inl h)); exact .inr (.inr h)⟩, old := hr3.old, new := hr3.new, k0 := hr3.k0 }
    have hin3 := hin.turn (o' := .loop { rec .ready none with state := .busy }) hlW2 (by simp) hl6 (.inl (.inr rfl)) (hmk ⟨_, hlW2⟩ rfl hin.defers)
    rw [hW3] at ht3 hin3
    have hb3 : Rep (nestC W3 (fun b => A2 b ∨ A' b) ρ2 k1 (s1 i).h c.nt) (s1 i) a2 W3 (fun b => A2 b ∨ A' b) ρ2 :=
      { heap := hin3.heap, tmps := hin3.tmps, nt := hin3.nt, defers := ⟨fun d hd => let ⟨D', e1, e2, e3, e4⟩ := hin3.defers.all d hd; ⟨D', e1, e2, Nat.zero_le _, e4⟩, hin3.defers.apart⟩, os := rfl, tape := rfl, output := rfl, size := Nat.le_refl _, frame := fun _ _ _ => rfl,
        own := fun x hx hxr b m hk => .inl ⟨x, hx, hxr, m, hk⟩, imm := fun b hb => ⟨(hin3.imm b hb).1, .inl hb⟩, old := fun _ _ => rfl, new := hin3.new, k0 := hin3.k0 }
    refine wpIn_mono (hbody i hi (nestC W3 (fun b => A2 b ∨ A' b) ρ2 k1 (s1 i).h c.nt) rfl rfl (D + 1) _ W3 ⟨_, ρ2, hb3⟩) ?_
    rintro e a4 W4 ⟨s4, ⟨rfl, hs4⟩, hab4⟩
    obtain ⟨A4, ρ4, hr4⟩ := hs4 _ _ hab4
    have himm3 : ∀ b, (A2 b ∨ A' b) → b < W3.heap.size ∧ ¬ blkOf ρ2 (s1 i).h b := hb3.nest_imm
    have hr4 := hr4.wide himm3
    have hc4 : W4.heap[D + 1]? = some (.loop { rec .ready none with state := .busy }) := (hr4.frame (D + 1) hlW3 hl6).trans hc3
    have hn4 := ht3.nest hr4 (fun b hb => .inr hb) hk hold
    have hl4 : ¬ blkOf ρ4 (H (i + 1)) (D + 1) := by
      rintro ⟨x, hx, hxr, m, hk⟩
      rcases hr4.own x hx hxr _ _ hk with h | h
      · exact hl6 h
      · have : W3.heap.size ≤ D + 1 := h; omega
    refine ⟨_, _, run_endRound none hc4, rfl, ?_⟩
    have hn5 := hn4.turn (o' := .loop (rec .ready none)) hc4 (by simp) hl4 hlo (hmk ⟨_, hc4⟩ rfl hn4.defers)
    have hrr : ({ rec .ready none with state := .busy } : Loop) = rec .busy none := by rw [hrec]
    have hfin : (Obj.loop { ({ rec .ready none with state := .busy } : Loop) with state := if (none : Option Code).isNone then .ready else .done, pending := none }) = .loop (rec .ready none) := by rw [hrec]; rfl
    rw [hfin]
    refine ⟨_, ρ4, hn5, fun b hb => .inr (.inr (h2 b hb)), fun b hb => ?_, fun e => absurd e (Nat.succ_ne_zero i), World.putObj_heap_same (Array.getElem?_eq_some_iff.1 hc4).1, hl4⟩
    have hA'b := h2 b hb
    have hne : b ≠ D + 1 := by have := hnA b hb; omega
    have e1 : W2.heap[b]? = W.heap[b]? := hr3.frame b (himm b hA'b).1 (himm b hA'b).2
    have e2 : W3.heap[b]? = W2.heap[b]? := by rw [← hW3]; exact World.putObj_heap_other hne
    have e3 : W4.heap[b]? = W3.heap[b]? := hr4.frame b (himm3 b (.inr hA'b)).1 (himm3 b (.inr hA'b)).2
    rw [World.putObj_heap_other hne, e3, e2, e1]; exact h3 b hb
  · -- behind the last
    rintro e W2 ⟨⟨v, rfl⟩, A', ρ', h1, h2, h3, h4, h5, h6⟩
    have hend := run_endLoop (P := P) h5 (by rw [hrec]; simp)
    have hpn : (rec .ready none).pending = none := by rw [hrec]
    rw [hpn] at hend
    refine ⟨none, _, hend, ?_⟩
    have hlo : c.F (D + 1) ∨ c.w0.heap.size ≤ D + 1 := .inr (by have := hr.size; omega)
    refine ⟨_, hq, A', ρ', ?_⟩
    have hm : Marks c.lo A' a1.defers (W2.putObj (D + 1) (.loop { rec .ready none with state := .exhausted })) := by
      refine ⟨fun d hd => ?_, h1.defers.apart⟩
      obtain ⟨D', e1, e2, e3, e4⟩ := h1.defers.all d hd
      refine ⟨D', e1, e2, e3, ?_⟩
      rw [World.putObj_heap_other]; · exact e4
      · rintro rfl; rw [h5] at e4; cases e4
    have := h1.turn (o' := .loop { rec .ready none with state := .exhausted }) h5 (by simp) h6 hlo hm
    rw [← ha1] at this
    simpa only [hpn, List.singleton_append] using this
end Go.Hw
