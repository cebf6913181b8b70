/- What is proved here: parts HwS, D1, M1, Hw16 of the walk of the law and of its plain side; no condition but those that each theorem states. -/
import Derived.Test.YtcbceacjhmblnaaGreatA2
import Derived.RangeFuncRecord
import Derived.TacticsIn
/- What is proved: rules by which the body of a loop over a function is walked, in a round's own frame. -/
set_option linter.all false
namespace Go.Hw

abbrev fenR (l : Nat) : Fence := Fence.wide.inRound l
theorem callsR {l : Nat} {P : Program} {f : FuncId} {args : Array Value} {w : World} {R : Ending → World → Prop} (h : Calls P f args w R) : CallsIn (fenR l) 0 P f args w R := callsIn_wide (n := 0).2 h
theorem aop_defer {ti : Nat → Option TI} {s : St} {d : Go.Call} : aop ti s (.defer d) = none := rfl
theorem callA_defer {ti : Nat → Option TI} {s : St} {d : Go.Call} : callA ti s (.defer d) = none := rfl

/-- A piece of a round's code, walked from a state. -/
def AWpR (P : Program) (c : Ctx) (code : Code) (Q : Exit → St → Prop) (s : St) : Prop :=
  ∀ l a w, Abs c s a w → code.wpIn (fenR l) 0 P (fun e a' w' => ∃ s', Q e s' ∧ Abs c s' a' w') a w

theorem runR_soundR {P : Program} {ti : Nat → Option TI} (hT : TOk P ti) {c : Ctx} {ops : Array Oper} (hnt : ∀ o ∈ ops.toList, ∀ d, o.dst = some d → d < c.nt) {K : St → Prop} {Q : Exit → Act → World → Prop} {l : Nat}
    (hQ : ∀ s' a' w', K s' → Abs c s' a' w' → Q .normal a' w') : ∀ {rest : List Oper} {s : St} {a : Act} {w : World}, (∀ o ∈ rest, o ∈ ops.toList) → runR P ti ops.toList rest s K → Abs c s a w → wpListIn (fenR l) 0 P ops Q rest a w
  | [], s, a, w, _, h, ha => hQ s a w (by rw [runR] at h; exact h) ha
  | o :: rest, s, a, w, hsub, h, ha => by
    obtain ⟨A, ρ, hr⟩ := ha
    have hsub' : ∀ o ∈ rest, o ∈ ops.toList := fun x hx => hsub x (by simp [hx])
    have hd : ∀ k, o.dst = some k → k < c.nt := fun k hk => hnt o (hsub o (by simp)) k hk
    rw [runR] at h
    cases hb : wantA ops.toList s o.guard with
    | none => rw [hb, runG] at h; exact h.elim
    | some bw =>
      obtain ⟨b, want⟩ := bw
      rw [hb, runG] at h
      have hw := wantA_sound hr hnt hb
      simp only [wpListIn]
      rw [hw]
      cases hbw : b == want with
      | true =>
        have hbw' : b = want := by simpa using hbw
        rw [if_pos hbw'] at h
        simp only [if_true]
        unfold Oper.wpIn
        refine ⟨fun _ _ => trivial, ?_⟩
        cases hc : callA ti s o.op with
        | some fl =>
          obtain ⟨f, args⟩ := fl
          have hnd : ∀ c, o.op ≠ .defer c := fun d e => by rw [e, callA_defer] at hc; cases hc
          rw [Oper.semAt_eq _ _ _ hnd]
          rw [hc, evR_call, runS] at h
          obtain ⟨hf, hcall⟩ := h
          obtain ⟨vs, h1, h2⟩ := callA_sound hT hr hc hf
          rw [h1, Oper.uponIn_enter]
          refine ⟨fun h => by simp [Fence.wide] at h, callsR ((hcall c a w A ρ vs hr h2).mono ?_)⟩
          rintro e w' ⟨y, v, h', nx, A', ρ', rfl, hK, hr', hv⟩
          exact runR_soundR hT hnt hQ hsub' hK ⟨A', ρ', hr'.put hd hv⟩
        | none =>
          cases he : aop ti s o.op with
          | some r =>
            obtain ⟨p, v, h', nx⟩ := r
            have hnd : ∀ c, o.op ≠ .defer c := fun d e => by rw [e, aop_defer] at he; cases he
            rw [Oper.semAt_eq _ _ _ hnd]
            rw [hc, he, evR_val, runS] at h
            obtain ⟨hp, hK⟩ := h
            obtain ⟨y, w', ρ', hran, hr', hv⟩ := aop_sound hT hr he hp
            have hnext := runR_soundR (l := l) hT hnt hQ hsub' hK ⟨A, ρ', hr'.put hd hv⟩
            rcases hran with hran | ⟨hran, rfl⟩
            · rw [hran, Oper.uponIn_value]; exact hnext
            · rw [hran, Oper.uponIn_skip]; exact hnext
          | none =>
            rw [hc, he] at h
            simp only [evR] at h
            rw [runS] at h; exact h.elim
      | false =>
        have hbw' : ¬ b = want := by simpa using hbw
        rw [if_neg hbw'] at h
        simp only [Bool.false_eq_true, if_false]
        exact ⟨fun _ _ => trivial, runR_soundR hT hnt hQ hsub' h ⟨A, ρ, hr.put hd undef_at⟩⟩

section rules
variable {P : Program} {ti : Nat → Option TI} {c : Ctx} {Q : Exit → St → Prop} {s : St}
theorem AWpR.region (hT : TOk P ti) {id : Nat} {ops : List Oper} (hd : dstOk c.nt ops = true) (h : runR P ti ops ops s (Q .normal)) : AWpR P c (.region id ⟨ops⟩ false) Q s := by
  intro l a w ha
  refine wpIn_region_list (runR_soundR hT (ops := ⟨ops⟩) ?_ (K := Q .normal) (fun s' a' w' hK h' => ⟨s', hK, h'⟩) (fun o h => h) h ha)
  intro o ho d hod
  simp only [dstOk, List.all_eq_true] at hd
  have := hd o ho
  rw [hod] at this
  simpa using this
theorem AWpR.seq {x y : Code} (h : ∀ K : St → Prop, (∀ s, AWpR P c y Q s → K s) → AWpR P c x (thenQ K Q) s) : AWpR P c (.seq x y) Q s := by
  intro l a w ha
  refine wpIn_seq (wpIn_mono (h (AWpR P c y Q) (fun _ h => h) l a w ha) ?_)
  rintro e a' w' ⟨s', h1, h2⟩
  cases e <;> first | exact h1 l a' w' h2 | exact ⟨s', h1, h2⟩
theorem AWpR.mono {x : Code} {Q' : Exit → St → Prop} (h : AWpR P c x Q s) (hq : ∀ e s, Q e s → Q' e s) : AWpR P c x Q' s :=
  fun l a w ha => wpIn_mono (h l a w ha) fun e a' w' ⟨s', h1, h2⟩ => ⟨s', hq e s' h1, h2⟩
theorem AWpR.cond' {x y : Code} {o : Operand} (h : ∀ X Y : Prop, (AWpR P c x Q s → X) → (AWpR P c y Q s → Y) → condG (evO s o) X Y) : AWpR P c (.cond o x y) Q s := by
  have h := h _ _ id id
  unfold condG at h
  split at h
  · rename_i t he
    intro l a w ha
    obtain ⟨A, ρ, hr⟩ := ha
    have e : a.eval o = .bool t := (evO_sound hr he).1
    refine wpIn_cond_split e (fun ht => ?_) (fun ht => ?_)
    · rw [if_pos ht] at h; exact h l a w ⟨A, ρ, hr⟩
    · rw [if_neg (by simp [ht])] at h; exact h l a w ⟨A, ρ, hr⟩
  · exact h.elim
theorem AWpR.block {id : Nat} {x : Code} (h : AWpR P c x (blockQ id Q) s) : AWpR P c (.block id x) Q s := by
  intro l a w ha
  refine wpIn_block (wpIn_mono (h l a w ha) ?_)
  rintro e a' w' ⟨s', h1, h2⟩
  cases e with
  | exit id' =>
    simp only [blockQ] at h1
    simp only [Exit.inBlock]
    split <;> rename_i hid
    · simp only [hid, if_true] at h1; exact ⟨s', h1, h2⟩
    · simp only [hid, if_false] at h1; exact ⟨s', h1, h2⟩
  | _ => exact ⟨s', h1, h2⟩
theorem AWpR.skip (h : Q .normal s) : AWpR P c .skip Q s := fun l a w ha => wpIn_skip ⟨s, h, ha⟩
theorem AWpR.exit {id : Nat} (h : Q (.exit id) s) : AWpR P c (.exit id) Q s := fun l a w ha => wpIn_exit ⟨s, h, ha⟩
theorem AWpR.ret (h : Q .ret s) : AWpR P c .ret Q s := fun l a w ha => wpIn_ret ⟨s, h, ha⟩
theorem AWpR.le {x : Code} {s' : St} (hs : SLe c s s') (h : AWpR P c x Q s') : AWpR P c x Q s := fun l a w ha => h l a w (hs a w ha)
end rules

/-! ### Contexts in one another -/
def Cell.old (k : Nat) : Cell → Prop
  | .t _ => True
  | .tp _ _ _ => True
  | .ptr h _ _ _ => h < k
  | .sl h _ _ _ => h < k
  | .mp h => h < k
  | .ch h => h < k
  | .fp _ _ h _ _ _ => h < k
def A1.old (k : Nat) : A1 → Prop
  | .c x => x.old k
  | .g l => allP (Cell.old k) l
def AV.old (k : Nat) : AV → Prop
  | .o x => x.old k
  | .tup l => allP (A1.old k) l
def tOld (k : Nat) : List (Nat × AV) → Prop
  | [] => True
  | (_, v) :: r => v.old k ∧ tOld k r
theorem tOld_look {k j : Nat} {v : AV} : ∀ {t : List (Nat × AV)}, tOld k t → look j t = some v → v.old k
  | [], _, h => by simp [look] at h
  | (i, u) :: r, ht, h => by
    simp only [look, cond_eq_ite] at h
    split at h
    · injection h with h; subst h; exact ht.1
    · exact tOld_look ht.2 h
theorem All2.imp_l {α β : Type} {R R' : α → β → Prop} {p : α → Prop} (h : ∀ a b, p a → R a b → R' a b) : ∀ {l : List α} {m : List β}, allP p l → All2 R l m → All2 R' l m
  | [], [], _, _ => trivial
  | [], _ :: _, _, x => x.elim
  | _ :: _, [], _, x => x.elim
  | _ :: _, _ :: _, ⟨p1, p2⟩, ⟨x, y⟩ => ⟨h _ _ p1 x, All2.imp_l h p2 y⟩
section old
variable {w : World} {A : Nat → Prop} {ρ ρ' : Rho} {k : Nat} (hρ : ∀ h, h < k → ρ' h = ρ h)
include hρ
theorem Cell.At.old {x : Cell} {y : Value} (ho : x.old k) (h : x.At w A ρ y) : x.At w A ρ' y := by
  cases x with
  | t x => exact h
  | tp wd f j => exact h
  | ptr h' wd i j => obtain ⟨b, m, h1, h2⟩ := h; exact ⟨b, m, (hρ _ ho).trans h1, h2⟩
  | sl h' wd s n =>
    rcases h with h | ⟨h0, b, m, cap, h1, h2⟩
    · exact .inl h
    · exact .inr ⟨h0, b, m, cap, (hρ _ ho).trans h1, h2⟩
  | mp h' => obtain ⟨b, m, h1, h2⟩ := h; exact ⟨b, m, (hρ _ ho).trans h1, h2⟩
  | ch h' => obtain ⟨b, m, h1, h2⟩ := h; exact ⟨b, m, (hρ _ ho).trans h1, h2⟩
  | fp q f h' wd i j => obtain ⟨b, m, h1, h2⟩ := h; exact ⟨b, m, (hρ _ ho).trans h1, h2⟩
theorem A1.At.old {x : A1} {y : Value} (ho : x.old k) (h : x.At w A ρ y) : x.At w A ρ' y := by
  cases x with
  | c x => exact Cell.At.old hρ ho h
  | g l => obtain ⟨cs, rfl, h⟩ := h; exact ⟨cs, rfl, All2.imp_l (fun _ _ => Cell.At.old hρ) ho h⟩
theorem AV.At.old {x : AV} {y : Value} (ho : x.old k) (h : x.At w A ρ y) : x.At w A ρ' y := by
  cases x with
  | o x => exact A1.At.old hρ ho h
  | tup l => obtain ⟨cs, rfl, h⟩ := h; exact ⟨cs, rfl, All2.imp_l (fun _ _ => A1.At.old hρ) ho h⟩
end old

/-- A context that begins here: what is owned may be written, the handles below k are fixed. -/
def nestC (w : World) (A : Nat → Prop) (ρ : Rho) (k : Nat) (H : Heap) (nt : Nat) : Ctx := { w0 := w, A0 := A, ρ0 := ρ, k0 := k, F := blkOf ρ H, nt := nt, lo := 0, hlo := Nat.zero_le _ }

/-- What was a tree's at the begin is one's still. -/
theorem Rep.wide {c : Ctx} {s : St} {a : Act} {w : World} {A : Nat → Prop} {ρ : Rho} (hi : ∀ b, c.A0 b → b < c.w0.heap.size ∧ ¬ c.F b) (h : Rep c s a w A ρ) : Rep c s a w (fun b => A b ∨ c.A0 b) ρ := by
  have hA : ∀ b, A b → A b ∨ c.A0 b := fun b hb => .inl hb
  refine { heap := ⟨fun x hx hxr => ?_, h.heap.inj⟩, tmps := fun k v hk => (h.tmps k v hk).mono hA (fun _ _ => rfl) (fun _ _ h => h), nt := h.nt, defers := h.defers.mono hA (fun _ _ => rfl), os := h.os, tape := h.tape, output := h.output, size := h.size, frame := h.frame, own := h.own, imm := ?_, old := h.old, new := h.new, k0 := h.k0 }
  · obtain ⟨b, m, h1, h2, h3, h4⟩ := h.heap.objs x hx hxr
    refine ⟨b, m, h1, h2.mono hA (fun _ _ => rfl) (fun _ _ h => h) rfl, ?_, h4⟩
    rintro (hb | hb)
    · exact h3 hb
    · rcases h.own x hx hxr b m h1 with h5 | h5
      · exact (hi b hb).2 h5
      · have := (hi b hb).1; omega
  · rintro b (hb | hb)
    · exact h.imm b hb
    · exact ⟨Nat.lt_of_lt_of_le (hi b hb).1 h.size, .inl hb⟩

theorem Rep.nest_imm {c : Ctx} {s : St} {a : Act} {w : World} {A : Nat → Prop} {ρ : Rho} (hr : Rep c s a w A ρ) : ∀ b, A b → b < w.heap.size ∧ ¬ blkOf ρ s.h b := by
  intro b hb
  refine ⟨(hr.imm b hb).1, ?_⟩
  rintro ⟨x, hx, hxr, m, hk⟩
  obtain ⟨b', m', hk', _, h5, _⟩ := hr.heap.objs x hx hxr
  rw [hk] at hk'; injection hk' with hk'; injection hk' with e1 e2; subst e1; exact h5 hb

/-- Out of the inner context again: what the outer one's slots held, what the inner one owns. -/
theorem Rep.nest {c : Ctx} {s : St} {a : Act} {w : World} {A : Nat → Prop} {ρ : Rho} (hr : Rep c s a w A ρ) {k1 : Nat} {s' : St} {a' : Act} {w' : World} {A' : Nat → Prop} {ρ' : Rho}
    (h2 : Rep (nestC w A ρ k1 s.h c.nt) s' a' w' A' ρ') (hA : ∀ b, A b → A' b) (hk : c.k0 ≤ k1) (hold : tOld k1 s.t) : Rep c ⟨s.t, s'.h, s'.nx⟩ a w' A' ρ' := by
  have hi := hr.nest_imm
  have hw : ∀ b, A b → w'.heap[b]? = w.heap[b]? := fun b hb => h2.frame b (hi b hb).1 (hi b hb).2
  have hF : ∀ b, blkOf ρ s.h b → c.F b ∨ c.w0.heap.size ≤ b := fun b ⟨x, hx, hxr, m, hk⟩ => hr.own x hx hxr b m hk
  have hsz : w.heap.size ≤ w'.heap.size := h2.size
  refine { heap := h2.heap, tmps := fun k v hk => ?_, nt := hr.nt, defers := hr.defers.mono hA hw, os := h2.os.trans hr.os, tape := h2.tape.trans hr.tape, output := h2.output.trans hr.output, size := Nat.le_trans hr.size hsz, frame := fun b hb hnF => ?_, own := fun x hx hxr b m hk => ?_, imm := fun b hb => ?_, old := fun h hh => ?_, new := h2.new, k0 := Nat.le_trans hk h2.k0 }
  · have h1 := hr.tmps k v hk
    have h3 : v.At w' A' ρ (a.tmps.getD k undef) := h1.mono hA hw (fun _ _ h => h)
    exact h3.old (k := k1) (fun h hh => h2.old h hh) (tOld_look hold hk)
  · have h1 : w'.heap[b]? = w.heap[b]? := h2.frame b (Nat.lt_of_lt_of_le hb hr.size) (fun hB => by rcases hF b hB with h | h; exact hnF h; omega)
    exact h1.trans (hr.frame b hb hnF)
  · rcases h2.own x hx hxr b m hk with h | h
    · exact hF b h
    · exact .inr (Nat.le_trans hr.size h)
  · refine ⟨(h2.imm b hb).1, ?_⟩
    rcases (h2.imm b hb).2 with h | h | h
    · exact (hr.imm b h).2
    · exact .inr (hF b h)
    · exact .inr (.inr (Nat.le_trans hr.size h))
  · have h1 : ρ' h = ρ h := h2.old h (Nat.lt_of_lt_of_le hh hk)
    exact h1.trans (hr.old h hh)

/-- Into an inner context. -/
theorem Rep.base {c : Ctx} {s : St} {a : Act} {w : World} {A : Nat → Prop} {ρ : Rho} (hr : Rep c s a w A ρ) {k1 : Nat} (hk : k1 ≤ s.nx) : Rep (nestC w A ρ k1 s.h c.nt) s { a with defers := [] } w A ρ :=
  { heap := hr.heap, tmps := hr.tmps, nt := hr.nt, defers := Marks.nil, os := rfl, tape := rfl, output := rfl, size := Nat.le_refl _, frame := fun _ _ _ => rfl,
    own := fun x hx hxr b m hk => .inl ⟨x, hx, hxr, m, hk⟩, imm := fun b hb => ⟨(hr.imm b hb).1, .inl hb⟩, old := fun _ _ => rfl, new := hr.new, k0 := hk }

/-- A world has grown: what was there is as it was. -/
structure Grew (W W' : World) : Prop where
  os : W'.os = W.os
  tape : W'.tape = W.tape
  output : W'.output = W.output
  size : W.heap.size ≤ W'.heap.size
  same : ∀ b, b < W.heap.size → W'.heap[b]? = W.heap[b]?
theorem Grew.trans {A B C : World} (h : Grew A B) (g : Grew B C) : Grew A C :=
  ⟨g.os.trans h.os, g.tape.trans h.tape, g.output.trans h.output, Nat.le_trans h.size g.size, fun b hb => (g.same b (Nat.lt_of_lt_of_le hb h.size)).trans (h.same b hb)⟩
theorem Grew.alloc (W : World) (o : Obj) : Grew W (W.alloc o) := ⟨rfl, rfl, rfl, by simp, fun b hb => by show (W.heap.push o)[b]? = _; exact push_get hb⟩
theorem HeapAt.grew {w w' : World} {A : Nat → Prop} {ρ : Rho} {H : Heap} (h : HeapAt w A ρ H) (hA : ∀ b, A b → b < w.heap.size) (g : Grew w w') : HeapAt w' A ρ H :=
  ⟨fun x hx hxr => by
    obtain ⟨b, m, h1, h2, h3, h4⟩ := h.objs x hx hxr
    exact ⟨b, m, h1, h2.mono (fun _ h => h) (fun b hb => g.same b (hA b hb)) (fun _ _ h => h) (g.same b h4), h3, Nat.lt_of_lt_of_le h4 g.size⟩, h.inj⟩
theorem Rep.grew {c : Ctx} {s : St} {a : Act} {w w' : World} {A : Nat → Prop} {ρ : Rho} (h : Rep c s a w A ρ) (g : Grew w w') : Rep c s a w' A ρ :=
  h.change (blk := fun _ => False) (H' := s.h) (nx' := s.nx) g.os g.tape g.output g.size (fun b hb _ => g.same b hb) (fun _ h _ => h.elim) (fun _ h => h) (fun b hb => ⟨Nat.lt_of_lt_of_le (h.imm b hb).1 g.size, .inl hb⟩) (fun _ _ h => h) h.new (fun _ _ => rfl) (Nat.le_refl _) h.own
    (h.heap.grew (fun b hb => (h.imm b hb).1) g)
/-- A mark more. -/
theorem Rep.mark {c : Ctx} {s : St} {a : Act} {w : World} {A : Nat → Prop} {ρ : Rho} (h : Rep c s a w A ρ) {D : Nat} (hD : w.heap[D]? = some (.deferred (some []))) (hb : ¬ blkOf ρ s.h D) (hA : ¬ A D) (hlo : c.lo ≤ D) (h0 : c.w0.heap.size ≤ D) :
    Rep c s { a with defers := { target := .collected D, args := #[] } :: a.defers } w (fun b => A b ∨ b = D) ρ := by
  have hA' : ∀ b, A b → A b ∨ b = D := fun b hb => .inl hb
  have hlt : D < w.heap.size := (Array.getElem?_eq_some_iff.1 hD).1
  refine { heap := ⟨fun x hx hxr => ?_, h.heap.inj⟩, tmps := fun k v hk => (h.tmps k v hk).mono hA' (fun _ _ => rfl) (fun _ _ h => h), nt := h.nt, defers := ⟨fun d hd => ?_, ?_⟩, os := h.os, tape := h.tape, output := h.output, size := h.size, frame := h.frame, own := h.own, imm := ?_, old := h.old, new := h.new, k0 := h.k0 }
  · obtain ⟨b, m, h1, h2, h3, h4⟩ := h.heap.objs x hx hxr
    refine ⟨b, m, h1, h2.mono hA' (fun _ _ => rfl) (fun _ _ h => h) rfl, ?_, h4⟩
    rintro (hb' | rfl)
    · exact h3 hb'
    · exact hb ⟨x, hx, hxr, m, h1⟩
  · rcases List.mem_cons.1 hd with rfl | hd
    · exact ⟨D, rfl, .inr rfl, hlo, hD⟩
    · obtain ⟨D', g1, g2, g3, g4⟩ := h.defers.all d hd; exact ⟨D', g1, .inl g2, g3, g4⟩
  · refine List.pairwise_cons.2 ⟨fun d hd e => ?_, h.defers.apart⟩
    obtain ⟨D', g1, g2, g3, g4⟩ := h.defers.all d hd
    rw [← e] at g1
    injection g1 with g1; injection g1 with g1; exact hA (g1 ▸ g2)
  · rintro b (hb' | rfl)
    · exact h.imm b hb'
    · exact ⟨hlt, .inr (.inr h0)⟩

/-! ### A range over a function -/
/-- Yield, as an iterator meets it. -/
def YieldR (P : Program) (l : Nat) (v : Value) (W : World) (R : World → Prop) : Prop :=
  ∃ fn tmps assign body, (Instr.yield l #[v]).run P W = .ok (.round l fn tmps assign body) W ∧ RoundIn Fence.wide 0 P l fn tmps assign body W (fun e W' => e = .returned (.bool true) ∧ R W')
/-- An iterator over the elements of a tree's row, whose slice it reads at a place. -/
def IterR (P : Program) (g : FuncId) (wd n : Nat) (f : Nat → Nat → TV) (sk : Nat) : Prop :=
  ∀ (l b off : Nat) (J : Nat → World → Prop) (W : World) (sv : Value), (∀ i W W', J i W → Grew W W' → J i W') → (∀ W, J 0 W → W.cell? ⟨b, off + sk, none⟩ = some sv) → (∀ i W, J i W → ∃ A, (TV.sl wd n f).At W A sv) →
    (∀ i W v, J i W → i < n → (∀ A ρ, (TV.sl wd n f).At W A sv → (A1.g (tab wd 0 fun j => .t (f i j))).At W A ρ v) → YieldR P l v W (J (i + 1))) → J 0 W →
    CallsIn Fence.wide 0 P g #[.func (.yield l) #[] #[], .pointer (some ⟨b, off, none⟩)] W fun e W' => (∃ v, e = .returned v) ∧ J n W'
end Go.Hw
/- What is proved: the abstract operations' equations, marked for the walk. -/
set_option linter.all false
namespace Go.Hw
section
variable {ti : Nat → Option TI} {s : St}
theorem old_aop_move (x : Operand) : aop ti s (.move x) = match evO s x with | some v => some (True, v, s.h, s.nx) | none => none := rfl
theorem old_aop_assign (x : Operand) : aop ti s (.assign x) = match evO s x with | some v => some (True, v, s.h, s.nx) | none => none := rfl
theorem old_aop_pick (c a b : Operand) : aop ti s (.pick c a b) = match evO s c, evO s a, evO s b with
    | some (.o (.c (.t (.v (.bool q))))), some u, some v => some (True, if q = true then u else v, s.h, s.nx)
    | _, _, _ => none := rfl
theorem old_aop_alloc (t : TypeId) : aop ti s (.alloc t) = match ti t with
    | some x => match zcells x with
      | some l => some (True, .o (.c (.ptr s.nx 0 0 0)), (s.nx, .box l) :: s.h, s.nx + 1)
      | none => none
    | none => none := rfl
theorem old_aop_box (t : TypeId) (x : Operand) : aop ti s (.box t x) = match evO s x with
    | some (.o v) => some (True, .o (.c (.ptr s.nx 0 0 0)), (s.nx, .box v.cells) :: s.h, s.nx + 1)
    | _ => none := rfl
theorem old_aop_build (t : TypeId) (parts : Array (Nat × Operand)) : aop ti s (.build t parts) = match partsA s parts.toList with
    | some l => match buildA ti t l with
      | some v => some (True, .o v, s.h, s.nx)
      | none => none
    | none => none := rfl
theorem old_aop_buildSlice (t : TypeId) (n : Nat) (parts : Array (Nat × Operand)) : aop ti s (.buildSlice t n parts) = match partsA s parts.toList with
    | some l => match litA ti t n l with
      | some (wd, r) => some (True, .o (.c (.sl s.nx wd 0 n)), (s.nx, litObj wd n r) :: s.h, s.nx + 1)
      | none => none
    | none => none := rfl
theorem old_aop_load (t : TypeId) (x : Operand) : aop ti s (.load t x) = match ti t, evO s x with
    | some tx, some (.o a) => match loadA tx s.h a with
      | some (p, v) => some (p, .o v, s.h, s.nx)
      | none => none
    | _, _ => none := rfl
theorem old_aop_store (t : TypeId) (a x : Operand) : aop ti s (.store t a x) = match ti t, evO s a, evO s x with
    | some tx, some (.o u), some (.o v) => match storeA tx s.h v u with
      | some (p, h) => some (p, .tup [], h, s.nx)
      | none => none
    | _, _, _ => none := rfl
theorem old_aop_nilCheck (x : Operand) : aop ti s (.nilCheck x) = match evO s x with
    | some (.o v) => if nilOk v = true then some (True, .o v, s.h, s.nx) else none
    | _ => none := rfl
def xorOp : BinOp → Bool
  | .xor => true
  | _ => false
theorem old_aop_binOp (op : BinOp) (t : TypeId) (x y : Operand) (yt : TypeId) (hop : xorOp op = false) : aop ti s (.binOp op t x y yt) = match evO s x, evO s y with
    | some (.o a), some (.o b) => match cmpA ti op t a b with
      | some (p, r) => some (p, scal r, s.h, s.nx)
      | none => none
    | _, _ => none := by cases op <;> first | rfl | cases hop
theorem old_aop_not (t : TypeId) (x : Operand) : aop ti s (.unOp .not t x) = match evO s x with
    | some (.o (.c (.t (.v (.bool q))))) => some (True, scal (.bool (!q)), s.h, s.nx)
    | _ => none := rfl
theorem old_aop_neg (t : TypeId) (x : Operand) : aop ti s (.unOp .neg t x) = match evO s x with
    | some (.o (.c (.t (.v (.int k n))))) => some (Fits k (-n), scal (.int k (-n)), s.h, s.nx)
    | _ => none := rfl
theorem old_aop_convert (src dst : TypeId) (x : Operand) : aop ti s (.convert src dst x) = match ti src, ti dst, evO s x with
    | some a, some b, some (.o (.c (.t (.v (.int _ n))))) => match a.k, b.k with
      | .int _, .int k => some (Fits k n, scal (.int k n), s.h, s.nx)
      | _, _ => none
    | _, _, _ => none := rfl
theorem old_aop_fieldAddr (t : TypeId) (x : Operand) (f : Nat) : aop ti s (.fieldAddr t x f) = match evO s x with
    | some (.o a) => match fieldA ti t f a with
      | some r => some (True, .o r, s.h, s.nx)
      | none => none
    | _ => none := rfl
theorem old_aop_field (t : TypeId) (x : Operand) (f : Nat) : aop ti s (.field t x f) = match evO s x with
    | some (.o a) => match fldA ti t f a with
      | some r => some (True, .o r, s.h, s.nx)
      | none => none
    | _ => none := rfl
theorem old_aop_indexAddr (t : TypeId) (x i : Operand) : aop ti s (.indexAddr t x i) = match evO s x, evO s i with
    | some (.o a), some (.o b) => match indexA ti t a b with
      | some (p, r) => some (p, .o r, s.h, s.nx)
      | none => none
    | _, _ => none := rfl
theorem old_aop_slice (t : TypeId) (x : Operand) (lo hi : Option Operand) : aop ti s (.slice t x lo hi none) = match evO s x with
    | some (.o a) => match sliceA ti t s a lo hi with
      | some (p, r) => some (p, .o r, s.h, s.nx)
      | none => none
    | _ => none := rfl
theorem old_aop_makeSlice (t : TypeId) (l c : Operand) : aop ti s (.makeSlice t l c) = match evO s l, evO s c with
    | some (.o a), some (.o b) => match makeA ti t a b with
      | some (p, wd, n, f) => some (p, .o (.c (.sl s.nx wd 0 n)), (s.nx, .row wd n f) :: s.h, s.nx + 1)
      | none => none
    | _, _ => none := rfl
theorem old_aop_extract (x : Operand) (i : Nat) : aop ti s (.extract x i) = match evO s x with
    | some (.tup l) => match l[i]? with
      | some v => some (True, .o v, s.h, s.nx)
      | none => none
    | _ => none := rfl
theorem old_aop_len (x : Operand) (t : TypeId) : aop ti s (.call ⟨.builtin .len, ⟨[x]⟩, ⟨[t]⟩⟩) = match evO s x with
    | some (.o a) => match lenA ti t a with
      | some r => some (True, scal r, s.h, s.nx)
      | none => none
    | _ => none := rfl
theorem old_aop_append (x y : Operand) (t xt : TypeId) : aop ti s (.call ⟨.builtin .append, ⟨[x, y]⟩, ⟨[t, xt]⟩⟩) = match evO s x, evO s y with
    | some (.o a), some (.o b) => match appendA ti s.h t xt a b with
      | some (p, wd, n, f, h) => some (p, .o (.c (.sl s.nx wd 0 n)), (s.nx, .row wd n f) :: h, s.nx + 1)
      | none => none
    | _, _ => none := rfl
theorem old_aop_copy (x y : Operand) (t xt : TypeId) : aop ti s (.call ⟨.builtin .copy, ⟨[x, y]⟩, ⟨[t, xt]⟩⟩) = match evO s x, evO s y with
    | some (.o a), some (.o b) => match copyA ti s.h t a b with
      | some (p, r, h) => some (p, scal r, h, s.nx)
      | none => none
    | _, _ => none := rfl
theorem old_callA_call (x : Operand) (args : List Operand) (tys : Array TypeId) : callA ti s (.call ⟨.value x, ⟨args⟩, tys⟩) = match evO s x, argsA s args with
    | some (.o (.c (.t (.v (.func (.func f) ⟨[]⟩ ⟨[]⟩))))), some l => some (f, l)
    | some (.o (.c (.fp q f h wd i j))), some l => some (f, bif q then .c (.ptr h wd i j) :: l else l ++ [.c (.ptr h wd i j)])
    | _, _ => none := rfl
end
/-- An answer's way on, looked at when the answer is there. -/
def ob {α β : Type} (x : Option α) (f : α → Option β) : Option β := match x with
  | some a => f a
  | none => none
@[go_sem] theorem ob_some {α β : Type} {a : α} {f : α → Option β} : ob (some a) f = f a := rfl
@[go_sem] theorem ob_none {α β : Type} {f : α → Option β} : ob none f = none := rfl
/-- A choice, likewise. -/
def obf {α : Type} (b : Bool) (x : Option α) : Option α := bif b then x else none
@[go_sem] theorem obf_true {α : Type} {x : Option α} : obf true x = x := rfl
@[go_sem] theorem obf_false {α : Type} {x : Option α} : obf false x = none := rfl
def one : AV → Option A1
  | .o a => some a
  | .tup _ => none
def ev1 (s : St) (x : Operand) : Option A1 := ob (evO s x) one
def bl1 : A1 → Option Bool
  | .c (.t (.v (.bool q))) => some q
  | _ => none
def in1 : A1 → Option (IntKind × Int)
  | .c (.t (.v (.int k n))) => some (k, n)
  | _ => none
attribute [go_sem] one ev1 bl1 in1
section
variable {ti : Nat → Option TI} {s : St}
@[go_sem] theorem aop_move (x : Operand) : aop ti s (.move x) = ob (evO s x) fun v => some (True, v, s.h, s.nx) := by
  rw [old_aop_move]
  cases evO s x <;> rfl
@[go_sem] theorem aop_assign (x : Operand) : aop ti s (.assign x) = ob (evO s x) fun v => some (True, v, s.h, s.nx) := by
  rw [old_aop_assign]
  cases evO s x <;> rfl
@[go_sem] theorem aop_pick (c a b : Operand) : aop ti s (.pick c a b) = ob (ev1 s c) fun q => ob (bl1 q) fun q => ob (evO s a) fun u => ob (evO s b) fun v => some (True, if q = true then u else v, s.h, s.nx) := by
  rw [old_aop_pick]; unfold ev1
  rcases evO s c with _ | ((_ | _) | _) <;> (try rfl)
  rename_i q
  rcases q with (x | _ | _) | _ | _ | _ | _ | _ | _ <;> (try rfl)
  cases x <;> (try rfl)
  rcases evO s a with _ | _ <;> (try rfl)
  rcases evO s b with _ | _ <;> rfl
@[go_sem] theorem aop_alloc (t : TypeId) : aop ti s (.alloc t) = ob (ti t) fun x => ob (zcells x) fun l => some (True, .o (.c (.ptr s.nx 0 0 0)), (s.nx, .box l) :: s.h, s.nx + 1) := by
  rw [old_aop_alloc]
  rcases ti t with _ | x <;> (try rfl)
  dsimp only [ob]
  rcases zcells x with _ | _ <;> rfl
@[go_sem] theorem aop_box (t : TypeId) (x : Operand) : aop ti s (.box t x) = ob (ev1 s x) fun v => some (True, .o (.c (.ptr s.nx 0 0 0)), (s.nx, .box v.cells) :: s.h, s.nx + 1) := by
  rw [old_aop_box]; unfold ev1
  rcases evO s x with _ | (_ | _) <;> rfl
@[go_sem] theorem aop_build (t : TypeId) (parts : Array (Nat × Operand)) : aop ti s (.build t parts) = ob (partsA s parts.toList) fun l => ob (buildA ti t l) fun v => some (True, .o v, s.h, s.nx) := by
  rw [old_aop_build]
  rcases partsA s parts.toList with _ | l <;> (try rfl)
  dsimp only [ob]
  rcases buildA ti t l with _ | _ <;> rfl
@[go_sem] theorem aop_buildSlice (t : TypeId) (n : Nat) (parts : Array (Nat × Operand)) : aop ti s (.buildSlice t n parts) = ob (partsA s parts.toList) fun l => ob (litA ti t n l) fun r => some (True, .o (.c (.sl s.nx r.1 0 n)), (s.nx, litObj r.1 n r.2) :: s.h, s.nx + 1) := by
  rw [old_aop_buildSlice]
  rcases partsA s parts.toList with _ | l <;> (try rfl)
  dsimp only [ob]
  rcases litA ti t n l with _ | ⟨_, _⟩ <;> rfl
@[go_sem] theorem aop_load (t : TypeId) (x : Operand) : aop ti s (.load t x) = ob (ti t) fun tx => ob (ev1 s x) fun a => ob (loadA tx s.h a) fun r => some (r.1, .o r.2, s.h, s.nx) := by
  rw [old_aop_load]; unfold ev1
  rcases ti t with _ | tx <;> (try rfl)
  rcases evO s x with _ | (a | _) <;> (try rfl)
  dsimp only [ob, one]
  rcases loadA tx s.h a with _ | ⟨_, _⟩ <;> rfl
@[go_sem] theorem aop_store (t : TypeId) (a x : Operand) : aop ti s (.store t a x) = ob (ti t) fun tx => ob (ev1 s a) fun u => ob (ev1 s x) fun v => ob (storeA tx s.h v u) fun r => some (r.1, .tup [], r.2, s.nx) := by
  rw [old_aop_store]; unfold ev1
  rcases ti t with _ | tx <;> (try rfl)
  rcases evO s a with _ | (u | _) <;> (try rfl)
  rcases evO s x with _ | (v | _) <;> (try rfl)
  dsimp only [ob, one]
  rcases storeA tx s.h v u with _ | ⟨_, _⟩ <;> rfl
@[go_sem] theorem aop_nilCheck (x : Operand) : aop ti s (.nilCheck x) = ob (ev1 s x) fun v => obf (nilOk v) (some (True, .o v, s.h, s.nx)) := by
  rw [old_aop_nilCheck]; unfold ev1
  rcases evO s x with _ | (v | _) <;> (try rfl)
  dsimp only [ob, one, obf]
  cases nilOk v <;> rfl
theorem aop_binOp (op : BinOp) (t : TypeId) (x y : Operand) (yt : TypeId) (hop : xorOp op = false) : aop ti s (.binOp op t x y yt) = ob (ev1 s x) fun a => ob (ev1 s y) fun b => ob (cmpA ti op t a b) fun r => some (r.1, scal r.2, s.h, s.nx) := by
  rw [old_aop_binOp _ _ _ _ _ hop]; unfold ev1
  rcases evO s x with _ | (a | _) <;> (try rfl)
  rcases evO s y with _ | (b | _) <;> (try rfl)
  dsimp only [ob, one]
  rcases cmpA ti op t a b with _ | ⟨_, _⟩ <;> rfl
@[go_sem] theorem aop_add (t : TypeId) (x y : Operand) (yt : TypeId) : aop ti s (.binOp .add t x y yt) = ob (ev1 s x) fun a => ob (ev1 s y) fun b => ob (cmpA ti .add t a b) fun r => some (r.1, scal r.2, s.h, s.nx) := aop_binOp .add t x y yt rfl
@[go_sem] theorem aop_sub (t : TypeId) (x y : Operand) (yt : TypeId) : aop ti s (.binOp .sub t x y yt) = ob (ev1 s x) fun a => ob (ev1 s y) fun b => ob (cmpA ti .sub t a b) fun r => some (r.1, scal r.2, s.h, s.nx) := aop_binOp .sub t x y yt rfl
@[go_sem] theorem aop_mul (t : TypeId) (x y : Operand) (yt : TypeId) : aop ti s (.binOp .mul t x y yt) = ob (ev1 s x) fun a => ob (ev1 s y) fun b => ob (cmpA ti .mul t a b) fun r => some (r.1, scal r.2, s.h, s.nx) := aop_binOp .mul t x y yt rfl
@[go_sem] theorem aop_quo (t : TypeId) (x y : Operand) (yt : TypeId) : aop ti s (.binOp .quo t x y yt) = ob (ev1 s x) fun a => ob (ev1 s y) fun b => ob (cmpA ti .quo t a b) fun r => some (r.1, scal r.2, s.h, s.nx) := aop_binOp .quo t x y yt rfl
@[go_sem] theorem aop_rem (t : TypeId) (x y : Operand) (yt : TypeId) : aop ti s (.binOp .rem t x y yt) = ob (ev1 s x) fun a => ob (ev1 s y) fun b => ob (cmpA ti .rem t a b) fun r => some (r.1, scal r.2, s.h, s.nx) := aop_binOp .rem t x y yt rfl
@[go_sem] theorem aop_eql (t : TypeId) (x y : Operand) (yt : TypeId) : aop ti s (.binOp .eql t x y yt) = ob (ev1 s x) fun a => ob (ev1 s y) fun b => ob (cmpA ti .eql t a b) fun r => some (r.1, scal r.2, s.h, s.nx) := aop_binOp .eql t x y yt rfl
@[go_sem] theorem aop_neq (t : TypeId) (x y : Operand) (yt : TypeId) : aop ti s (.binOp .neq t x y yt) = ob (ev1 s x) fun a => ob (ev1 s y) fun b => ob (cmpA ti .neq t a b) fun r => some (r.1, scal r.2, s.h, s.nx) := aop_binOp .neq t x y yt rfl
@[go_sem] theorem aop_lss (t : TypeId) (x y : Operand) (yt : TypeId) : aop ti s (.binOp .lss t x y yt) = ob (ev1 s x) fun a => ob (ev1 s y) fun b => ob (cmpA ti .lss t a b) fun r => some (r.1, scal r.2, s.h, s.nx) := aop_binOp .lss t x y yt rfl
@[go_sem] theorem aop_leq (t : TypeId) (x y : Operand) (yt : TypeId) : aop ti s (.binOp .leq t x y yt) = ob (ev1 s x) fun a => ob (ev1 s y) fun b => ob (cmpA ti .leq t a b) fun r => some (r.1, scal r.2, s.h, s.nx) := aop_binOp .leq t x y yt rfl
@[go_sem] theorem aop_gtr (t : TypeId) (x y : Operand) (yt : TypeId) : aop ti s (.binOp .gtr t x y yt) = ob (ev1 s x) fun a => ob (ev1 s y) fun b => ob (cmpA ti .gtr t a b) fun r => some (r.1, scal r.2, s.h, s.nx) := aop_binOp .gtr t x y yt rfl
@[go_sem] theorem aop_geq (t : TypeId) (x y : Operand) (yt : TypeId) : aop ti s (.binOp .geq t x y yt) = ob (ev1 s x) fun a => ob (ev1 s y) fun b => ob (cmpA ti .geq t a b) fun r => some (r.1, scal r.2, s.h, s.nx) := aop_binOp .geq t x y yt rfl
@[go_sem] theorem aop_and (t : TypeId) (x y : Operand) (yt : TypeId) : aop ti s (.binOp .and t x y yt) = ob (ev1 s x) fun a => ob (ev1 s y) fun b => ob (cmpA ti .and t a b) fun r => some (r.1, scal r.2, s.h, s.nx) := aop_binOp .and t x y yt rfl
@[go_sem] theorem aop_or (t : TypeId) (x y : Operand) (yt : TypeId) : aop ti s (.binOp .or t x y yt) = ob (ev1 s x) fun a => ob (ev1 s y) fun b => ob (cmpA ti .or t a b) fun r => some (r.1, scal r.2, s.h, s.nx) := aop_binOp .or t x y yt rfl
@[go_sem] theorem aop_shl (t : TypeId) (x y : Operand) (yt : TypeId) : aop ti s (.binOp .shl t x y yt) = ob (ev1 s x) fun a => ob (ev1 s y) fun b => ob (cmpA ti .shl t a b) fun r => some (r.1, scal r.2, s.h, s.nx) := aop_binOp .shl t x y yt rfl
@[go_sem] theorem aop_shr (t : TypeId) (x y : Operand) (yt : TypeId) : aop ti s (.binOp .shr t x y yt) = ob (ev1 s x) fun a => ob (ev1 s y) fun b => ob (cmpA ti .shr t a b) fun r => some (r.1, scal r.2, s.h, s.nx) := aop_binOp .shr t x y yt rfl
@[go_sem] theorem aop_andNot (t : TypeId) (x y : Operand) (yt : TypeId) : aop ti s (.binOp .andNot t x y yt) = ob (ev1 s x) fun a => ob (ev1 s y) fun b => ob (cmpA ti .andNot t a b) fun r => some (r.1, scal r.2, s.h, s.nx) := aop_binOp .andNot t x y yt rfl
@[go_sem] theorem aop_not (t : TypeId) (x : Operand) : aop ti s (.unOp .not t x) = ob (ev1 s x) fun q => ob (bl1 q) fun q => some (True, scal (.bool (!q)), s.h, s.nx) := by
  rw [old_aop_not]; unfold ev1
  rcases evO s x with _ | ((_ | _) | _) <;> (try rfl)
  rename_i q
  rcases q with (x | _ | _) | _ | _ | _ | _ | _ | _ <;> (try rfl)
  cases x <;> rfl
@[go_sem] theorem aop_neg (t : TypeId) (x : Operand) : aop ti s (.unOp .neg t x) = ob (ev1 s x) fun q => ob (in1 q) fun q => some (Fits q.1 (-q.2), scal (.int q.1 (-q.2)), s.h, s.nx) := by
  rw [old_aop_neg]; unfold ev1
  rcases evO s x with _ | ((_ | _) | _) <;> (try rfl)
  rename_i q
  rcases q with (x | _ | _) | _ | _ | _ | _ | _ | _ <;> (try rfl)
  cases x <;> rfl
def kint : TK → Option IntKind
  | .int k => some k
  | _ => none
@[go_sem] theorem aop_convert (src dst : TypeId) (x : Operand) : aop ti s (.convert src dst x) = ob (ti src) fun a => ob (ti dst) fun b => ob (ev1 s x) fun q => ob (in1 q) fun q => ob (kint a.k) fun _ => ob (kint b.k) fun k => some (Fits k q.2, scal (.int k q.2), s.h, s.nx) := by
  rw [old_aop_convert]; unfold ev1
  rcases ti src with _ | ⟨a, _, _, _⟩ <;> (try rfl)
  rcases ti dst with _ | ⟨b, _, _, _⟩ <;> (try rfl)
  rcases evO s x with _ | ((_ | _) | _) <;> (try rfl)
  rename_i q
  rcases q with (x | _ | _) | _ | _ | _ | _ | _ | _ <;> (try rfl)
  cases x <;> (try rfl)
  cases a <;> cases b <;> rfl
@[go_sem] theorem aop_fieldAddr (t : TypeId) (x : Operand) (f : Nat) : aop ti s (.fieldAddr t x f) = ob (ev1 s x) fun a => ob (fieldA ti t f a) fun r => some (True, .o r, s.h, s.nx) := by
  rw [old_aop_fieldAddr]; unfold ev1
  rcases evO s x with _ | (a | _) <;> (try rfl)
  dsimp only [ob, one]
  rcases fieldA ti t f a with _ | _ <;> rfl
@[go_sem] theorem aop_field (t : TypeId) (x : Operand) (f : Nat) : aop ti s (.field t x f) = ob (ev1 s x) fun a => ob (fldA ti t f a) fun r => some (True, .o r, s.h, s.nx) := by
  rw [old_aop_field]; unfold ev1
  rcases evO s x with _ | (a | _) <;> (try rfl)
  dsimp only [ob, one]
  rcases fldA ti t f a with _ | _ <;> rfl
@[go_sem] theorem aop_indexAddr (t : TypeId) (x i : Operand) : aop ti s (.indexAddr t x i) = ob (ev1 s x) fun a => ob (ev1 s i) fun b => ob (indexA ti t a b) fun r => some (r.1, .o r.2, s.h, s.nx) := by
  rw [old_aop_indexAddr]; unfold ev1
  rcases evO s x with _ | (a | _) <;> (try rfl)
  rcases evO s i with _ | (b | _) <;> (try rfl)
  dsimp only [ob, one]
  rcases indexA ti t a b with _ | ⟨_, _⟩ <;> rfl
@[go_sem] theorem aop_slice (t : TypeId) (x : Operand) (lo hi : Option Operand) : aop ti s (.slice t x lo hi none) = ob (ev1 s x) fun a => ob (sliceA ti t s a lo hi) fun r => some (r.1, .o r.2, s.h, s.nx) := by
  rw [old_aop_slice]; unfold ev1
  rcases evO s x with _ | (a | _) <;> (try rfl)
  dsimp only [ob, one]
  rcases sliceA ti t s a lo hi with _ | ⟨_, _⟩ <;> rfl
@[go_sem] theorem aop_makeSlice (t : TypeId) (l c : Operand) : aop ti s (.makeSlice t l c) = ob (ev1 s l) fun a => ob (ev1 s c) fun b => ob (makeA ti t a b) fun r => some (r.1, .o (.c (.sl s.nx r.2.1 0 r.2.2.1)), (s.nx, .row r.2.1 r.2.2.1 r.2.2.2) :: s.h, s.nx + 1) := by
  rw [old_aop_makeSlice]; unfold ev1
  rcases evO s l with _ | (a | _) <;> (try rfl)
  rcases evO s c with _ | (b | _) <;> (try rfl)
  dsimp only [ob, one]
  rcases makeA ti t a b with _ | ⟨_, _, _, _⟩ <;> rfl
def tu1 : AV → Option (List A1)
  | .tup l => some l
  | _ => none
@[go_sem] theorem aop_extract (x : Operand) (i : Nat) : aop ti s (.extract x i) = ob (evO s x) fun v => ob (tu1 v) fun l => ob l[i]? fun v => some (True, .o v, s.h, s.nx) := by
  rw [old_aop_extract]
  rcases evO s x with _ | (_ | l) <;> (try rfl)
  dsimp only [ob, tu1]
  rcases l[i]? with _ | _ <;> rfl
@[go_sem] theorem aop_len (x : Operand) (t : TypeId) : aop ti s (.call ⟨.builtin .len, ⟨[x]⟩, ⟨[t]⟩⟩) = ob (ev1 s x) fun a => ob (lenA ti t a) fun r => some (True, scal r, s.h, s.nx) := by
  rw [old_aop_len]; unfold ev1
  rcases evO s x with _ | (a | _) <;> (try rfl)
  dsimp only [ob, one]
  rcases lenA ti t a with _ | _ <;> rfl
@[go_sem] theorem aop_append (x y : Operand) (t xt : TypeId) : aop ti s (.call ⟨.builtin .append, ⟨[x, y]⟩, ⟨[t, xt]⟩⟩) = ob (ev1 s x) fun a => ob (ev1 s y) fun b => ob (appendA ti s.h t xt a b) fun r => some (r.1, .o (.c (.sl s.nx r.2.1 0 r.2.2.1)), (s.nx, .row r.2.1 r.2.2.1 r.2.2.2.1) :: r.2.2.2.2, s.nx + 1) := by
  rw [old_aop_append]; unfold ev1
  rcases evO s x with _ | (a | _) <;> (try rfl)
  rcases evO s y with _ | (b | _) <;> (try rfl)
  dsimp only [ob, one]
  rcases appendA ti s.h t xt a b with _ | ⟨_, _, _, _, _⟩ <;> rfl
@[go_sem] theorem aop_copy (x y : Operand) (t xt : TypeId) : aop ti s (.call ⟨.builtin .copy, ⟨[x, y]⟩, ⟨[t, xt]⟩⟩) = ob (ev1 s x) fun a => ob (ev1 s y) fun b => ob (copyA ti s.h t a b) fun r => some (r.1, scal r.2.1, r.2.2, s.nx) := by
  rw [old_aop_copy]; unfold ev1
  rcases evO s x with _ | (a | _) <;> (try rfl)
  rcases evO s y with _ | (b | _) <;> (try rfl)
  dsimp only [ob, one]
  rcases copyA ti s.h t a b with _ | ⟨_, _, _⟩ <;> rfl
attribute [go_sem] kint tu1
def fn1 : A1 → Option (FuncId × List A1 × List A1)
  | .c (.t (.v (.func (.func f) ⟨[]⟩ ⟨[]⟩))) => some (f, [], [])
  | .c (.fp false f h wd i j) => some (f, [], [.c (.ptr h wd i j)])
  | .c (.fp true f h wd i j) => some (f, [.c (.ptr h wd i j)], [])
  | _ => none
@[go_sem] theorem callA_call (x : Operand) (args : List Operand) (tys : Array TypeId) : callA ti s (.call ⟨.value x, ⟨args⟩, tys⟩) = ob (ev1 s x) fun a => ob (fn1 a) fun f => ob (argsA s args) fun l => some (f.1, f.2.1 ++ (l ++ f.2.2)) := by
  rw [old_callA_call]; unfold ev1
  rcases evO s x with _ | ((q | _) | _) <;> (try rfl)
  rcases q with (v | _ | _) | _ | _ | _ | _ | _ | _ <;> (try rfl)
  · cases v <;> (try rfl)
    rename_i fn fi ca
    rcases fi with ⟨_ | _⟩ <;> rcases ca with ⟨_ | _⟩ <;> cases fn <;> (try rfl)
    dsimp only [ob, one, fn1]
    rcases argsA s args with _ | l <;> (try rfl)
    simp
  · rename_i q _ _ _ _ _
    cases q <;> dsimp only [ob, one, fn1] <;> rcases argsA s args with _ | l <;> (try rfl)
    simp
attribute [go_sem] fn1
def pt1 : A1 → Option (Nat × Nat × Nat × Nat)
  | .c (.ptr h wd i j) => some (h, wd, i, j)
  | _ => none
attribute [go_sem] pt1
theorem aopA_mf (f : Fn) (x y : Array Operand) : aopA ti s (.makeFunc f x y) = none := rfl
@[go_sem] theorem aop_bound (f : FuncId) (x : Operand) : aop ti s (.makeFunc (.func f) ⟨[x]⟩ ⟨[]⟩) = ob (ev1 s x) fun a => ob (pt1 a) fun q => some (True, .o (.c (.fp true f q.1 q.2.1 q.2.2.1 q.2.2.2)), s.h, s.nx) := by
  unfold aop
  show (match (match evO s x with
    | some (.o (.c (.ptr h wd i j))) => some (True, .o (.c (.fp true f h wd i j)), s.h, s.nx)
    | _ => none : Option (Prop × AV × Heap × Nat)) with | some r => some r | none => aopA ti s (.makeFunc (.func f) ⟨[x]⟩ ⟨[]⟩)) = _
  rw [aopA_mf]
  unfold ev1
  rcases evO s x with _ | ((q | _) | _)
  · rfl
  · cases q <;> rfl
  · rfl
  · rfl
@[go_sem] theorem aop_closure (f : FuncId) (x : Operand) : aop ti s (.makeFunc (.func f) ⟨[]⟩ ⟨[x]⟩) = ob (ev1 s x) fun a => ob (pt1 a) fun q => some (True, .o (.c (.fp false f q.1 q.2.1 q.2.2.1 q.2.2.2)), s.h, s.nx) := by
  unfold aop
  show (match (match evO s x with
    | some (.o (.c (.ptr h wd i j))) => some (True, .o (.c (.fp false f h wd i j)), s.h, s.nx)
    | _ => none : Option (Prop × AV × Heap × Nat)) with | some r => some r | none => aopA ti s (.makeFunc (.func f) ⟨[]⟩ ⟨[x]⟩)) = _
  rw [aopA_mf]
  unfold ev1
  rcases evO s x with _ | ((q | _) | _)
  · rfl
  · cases q <;> rfl
  · rfl
  · rfl
@[go_sem] theorem aop_func (f : FuncId) : aop ti s (.makeFunc (.func f) ⟨[]⟩ ⟨[]⟩) = some (True, .o (.c (.t (.v (.func (.func f) #[] #[])))), s.h, s.nx) := rfl
def mp1 : A1 → Option Nat
  | .c (.mp h) => some h
  | _ => none
def i64 : A1 → Option Int
  | .c (.t (.v (.int .i64 n))) => some n
  | _ => none
def rawm : AObj → Option (Array MapEntry × Nat)
  | .raw (.map es c) => some (es, c)
  | _ => none
def kmp : TK → Option (Nat × Nat)
  | .mp k e => some (k, e)
  | _ => none
def kst : TK → Option Unit
  | .st _ => some ()
  | _ => none
def karr : TK → Option (Nat × Nat)
  | .arr n e => some (n, e)
  | _ => none
def emp : A1 → Option Unit
  | .g [] => some ()
  | _ => none
def grp : A1 → Option (List Cell)
  | .g l => some l
  | _ => none
def ifc : A1 → Option Nat
  | .c (.t (.v (.iface d (.agg ⟨[]⟩)))) => some d
  | _ => none
def noz : List Value → Option Unit
  | [] => some ()
  | _ => none
attribute [go_sem] mp1 i64 rawm kmp kst karr emp grp ifc noz intK
@[go_sem] theorem aop_makeMap (t : TypeId) (x : Operand) : aop ti s (.makeMap t (some x)) = ob (ti t) fun tx => ob (ev1 s x) fun q => ob (in1 q) fun _ => ob (kmp tx.k) fun _ => some (True, .o (.c (.mp s.nx)), (s.nx, .raw (.map #[] 0)) :: s.h, s.nx + 1) := by
  unfold ev1 aop aopB aopA; dsimp only
  rcases ti t with _ | ⟨k, _, _, _, _, _⟩ <;> (try rfl)
  rcases evO s x with _ | ((_ | _) | _) <;> (try rfl)
  rename_i q
  rcases q with (x | _ | _) | _ | _ | _ | _ | _ | _ <;> (try rfl)
  cases x <;> (try rfl)
  cases k <;> rfl
@[go_sem] theorem aop_lookup (t : TypeId) (x i : Operand) : aop ti s (.lookup t x i false) = ob (ti t) fun tx => ob (ev1 s x) fun m => ob (mp1 m) fun h => ob (ev1 s i) fun k => ob (i64 k) fun k => ob (kmp tx.k) fun ke => ob (look h s.h) fun o => ob (rawm o) fun es => ob (ti ke.1) fun tk => ob (ti ke.2) fun _ => obf (intK tk.k) (some (intKeys es.1.toList = true ∧ (fdI k es.1.toList 0).isSome = true, .o (.c (.t (.v (.int .i64 (lkI k es.1.toList))))), s.h, s.nx)) := by
  unfold ev1 aop aopB aopA; dsimp only
  rcases ti t with _ | ⟨k, _, _, _, _, _⟩ <;> (try rfl)
  rcases evO s x with _ | ((_ | _) | _) <;> (try rfl)
  rename_i q
  cases q <;> (try rfl)
  rename_i h
  rcases evO s i with _ | ((_ | _) | _) <;> (try rfl)
  rename_i q
  rcases q with (x | _ | _) | _ | _ | _ | _ | _ | _ <;> (try rfl)
  cases x <;> (try rfl)
  rename_i kk n
  cases kk <;> (try rfl)
  cases k <;> (try rfl)
  dsimp only [ob, one, mp1, i64, kmp]
  rcases look h s.h with _ | (_ | _ | o) <;> (try rfl)
  cases o <;> (try rfl)
  rename_i ke el es cl
  dsimp only [ob, rawm]
  rcases ti ke with _ | tk <;> (try rfl)
  rcases ti el with _ | te <;> (try rfl)
  dsimp only [ob, obf]
  cases intK tk.k <;> rfl
@[go_sem] theorem aop_mapUpdate (t : TypeId) (x i y : Operand) : aop ti s (.mapUpdate t x i y) = ob (ti t) fun tx => ob (ev1 s x) fun m => ob (mp1 m) fun h => ob (ev1 s i) fun k => ob (i64 k) fun k => ob (ev1 s y) fun n => ob (i64 n) fun n => ob (kmp tx.k) fun ke => ob (look h s.h) fun o => ob (rawm o) fun es => ob (ti ke.1) fun tk => obf (intK tk.k) (some (intKeys es.1.toList = true, .tup [], upd h (.raw (updM es.1 es.2 k n)) s.h, s.nx)) := by
  unfold ev1 aop aopB aopA; dsimp only
  rcases ti t with _ | ⟨k, _, _, _, _, _⟩ <;> (try rfl)
  rcases evO s x with _ | ((_ | _) | _) <;> (try rfl)
  rename_i q
  cases q <;> (try rfl)
  rename_i h
  rcases evO s i with _ | ((_ | _) | _) <;> (try rfl)
  rename_i q
  rcases q with (x | _ | _) | _ | _ | _ | _ | _ | _ <;> (try rfl)
  cases x <;> (try rfl)
  rename_i kk n
  cases kk <;> (try rfl)
  rcases evO s y with _ | ((_ | _) | _) <;> (try rfl)
  rename_i q
  rcases q with (x | _ | _) | _ | _ | _ | _ | _ | _ <;> (try rfl)
  cases x <;> (try rfl)
  rename_i kk n
  cases kk <;> (try rfl)
  cases k <;> (try rfl)
  dsimp only [ob, one, mp1, i64, kmp]
  rcases look h s.h with _ | (_ | _ | o) <;> (try rfl)
  cases o <;> (try rfl)
  rename_i ke el es cl
  dsimp only [ob, rawm]
  rcases ti ke with _ | tk <;> (try rfl)
  dsimp only [ob, obf]
  cases intK tk.k <;> rfl
@[go_sem] theorem aop_makeInterface (t : TypeId) (x : Operand) : aop ti s (.makeInterface t x) = ob (ti t) fun tx => ob (ev1 s x) fun q => ob (emp q) fun _ => ob (kst tx.k) fun _ => some (True, .o (.c (.t (.v (.iface t (.agg ⟨[]⟩))))), s.h, s.nx) := by
  unfold ev1 aop aopB aopA; dsimp only
  rcases ti t with _ | ⟨k, _, _, _, _, _⟩ <;> (try rfl)
  rcases evO s x with _ | ((_ | l) | _) <;> (try rfl)
  cases l <;> (try rfl)
  cases k <;> rfl
@[go_sem] theorem aop_typeAssert (xt t : TypeId) (x : Operand) : aop ti s (.typeAssert x xt t true) = ob (ti t) fun tx => ob (ev1 s x) fun q => ob (ifc q) fun d => ob (kst tx.k) fun _ => ob (noz tx.zero) fun _ => some (True, .tup [.g [], .c (.t (.v (.bool (decide (d = t)))))], s.h, s.nx) := by
  unfold ev1 aop aopB aopA; dsimp only
  rcases ti t with _ | ⟨k, _, _, z, _, _⟩ <;> (try rfl)
  rcases evO s x with _ | ((q | l) | _) <;> (try rfl)
  rcases q with (x | _ | _) | _ | _ | _ | _ | _ | _ <;> (try rfl)
  cases x <;> (try rfl)
  rename_i d v
  cases v <;> (try rfl)
  rename_i cs
  obtain ⟨l⟩ := cs
  cases l <;> (try rfl)
  cases k <;> (try rfl)
  cases z <;> rfl
@[go_sem] theorem aop_index (t : TypeId) (x i : Operand) : aop ti s (.index t x i) = ob (ti t) fun tx => ob (ev1 s x) fun q => ob (grp q) fun l => ob (ev1 s i) fun n => ob (in1 n) fun n => ob (karr tx.k) fun le => ob (ti le.2) fun ex => ob (partA ex l (n.2.toNat * ex.size)) fun r => some (0 ≤ n.2 ∧ n.2 < le.1, .o r, s.h, s.nx) := by
  unfold ev1 aop aopB aopA; dsimp only
  rcases ti t with _ | ⟨k, _, _, z, _, _⟩ <;> (try rfl)
  rcases evO s x with _ | ((q | l) | _) <;> (try rfl)
  rcases evO s i with _ | ((_ | _) | _) <;> (try rfl)
  rename_i q
  rcases q with (x | _ | _) | _ | _ | _ | _ | _ | _ <;> (try rfl)
  cases x <;> (try rfl)
  cases k <;> (try rfl)
  rename_i kk n len e
  dsimp only [ob, one, grp, in1, karr]
  rcases ti e with _ | ex <;> (try rfl)
  dsimp only [ob]
  rcases partA ex l (n.toNat * ex.size) with _ | _ <;> rfl
@[go_sem] theorem aop_xor (t : TypeId) (x y : Operand) (yt : TypeId) : aop ti s (.binOp .xor t x y yt) = ob (ev1 s x) fun a => ob (i64 a) fun a => ob (ev1 s y) fun b => ob (i64 b) fun b => some (True, scal (.int .i64 (xorI a b)), s.h, s.nx) := by
  have hA : aopA ti s (.binOp .xor t x y yt) = none := by
    unfold aopA; dsimp only
    rcases evO s x with _ | (a | _) <;> (try rfl)
    rcases evO s y with _ | (b | _) <;> (try rfl)
    dsimp only
    have : cmpA ti .xor t a b = none := by
      unfold cmpA
      rcases ti t with _ | ⟨k, _, _, _, c, _⟩ <;> (try rfl)
      have hbin : ∀ a b, binA .xor a b = none := by
        intro a b
        unfold binA
        split <;> (try rfl)
        rename_i k a k' b
        cases decide (k = k') <;> rfl
      cases k <;> (try rfl)
      all_goals (try simp only [cond_eq_ite])
      all_goals (repeat' (first | rfl | exact hbin _ _ | split))
    rw [this]
  unfold ev1 aop
  rw [hA]
  unfold aopB; dsimp only
  rcases evO s x with _ | ((q | l) | _) <;> (try rfl)
  rcases q with (v | _ | _) | _ | _ | _ | _ | _ | _ <;> (try rfl)
  cases v <;> (try rfl)
  rename_i kk n
  cases kk <;> (try rfl)
  rcases evO s y with _ | ((q | l) | _) <;> (try rfl)
  rcases q with (v | _ | _) | _ | _ | _ | _ | _ | _ <;> (try rfl)
  cases v <;> (try rfl)
  rename_i kk n
  cases kk <;> rfl
@[go_sem] theorem aop_max (x y : Operand) (tys : Array TypeId) : aop ti s (.call ⟨.builtin .max, ⟨[x, y]⟩, tys⟩) = ob (ev1 s x) fun a => ob (i64 a) fun a => ob (ev1 s y) fun b => ob (i64 b) fun b => some (True, scal (.int .i64 (if a < b then b else a)), s.h, s.nx) := by
  unfold ev1 aop aopB aopA; dsimp only
  rcases evO s x with _ | ((q | l) | _) <;> (try rfl)
  rcases q with (v | _ | _) | _ | _ | _ | _ | _ | _ <;> (try rfl)
  cases v <;> (try rfl)
  rename_i kk n
  cases kk <;> (try rfl)
  rcases evO s y with _ | ((q | l) | _) <;> (try rfl)
  rcases q with (v | _ | _) | _ | _ | _ | _ | _ | _ <;> (try rfl)
  cases v <;> (try rfl)
  rename_i kk n
  cases kk <;> rfl
@[go_sem] theorem callA_invoke (x : Operand) (n : String) (args : List Operand) (tys : Array TypeId) : callA ti s (.call ⟨.invoke x n, ⟨args⟩, tys⟩) = ob (ev1 s x) fun a => ob (ifc a) fun d => ob (argsA s args) fun l => ob (ti d) fun td => ob (mth n td.meth) fun f => some (f, .g [] :: l) := by
  unfold ev1 callA; dsimp only
  rcases evO s x with _ | ((q | l) | _) <;> (try rfl)
  rcases q with (v | _ | _) | _ | _ | _ | _ | _ | _ <;> (try rfl)
  cases v <;> (try rfl)
  rename_i d v
  cases v <;> (try rfl)
  rename_i cs
  obtain ⟨l⟩ := cs
  cases l <;> (try rfl)
  rcases argsA s args with _ | l <;> (try rfl)
  dsimp only [ob, one, ifc]
  rcases ti d with _ | td <;> (try rfl)
  dsimp only [ob]
  rcases mth n td.meth with _ | f <;> rfl
@[go_sem] theorem mth_same (n : String) (f : Nat) (r : List (String × Nat)) : mth n ((n, f) :: r) = some f := by simp [mth]
@[go_sem] theorem callA_makeMap (t : TypeId) (x : Option Operand) : callA ti s (.makeMap t x) = none := rfl
@[go_sem] theorem callA_lookup (t : TypeId) (x i : Operand) (c : Bool) : callA ti s (.lookup t x i c) = none := rfl
@[go_sem] theorem callA_mapUpdate (t : TypeId) (x i y : Operand) : callA ti s (.mapUpdate t x i y) = none := rfl
@[go_sem] theorem callA_makeInterface (t : TypeId) (x : Operand) : callA ti s (.makeInterface t x) = none := rfl
@[go_sem] theorem callA_typeAssert (xt t : TypeId) (x : Operand) (c : Bool) : callA ti s (.typeAssert x xt t c) = none := rfl
@[go_sem] theorem callA_index (t : TypeId) (x i : Operand) : callA ti s (.index t x i) = none := rfl
@[go_sem] theorem callA_builtin (b : Builtin) (args : Array Operand) (tys : Array TypeId) : callA ti s (.call ⟨.builtin b, args, tys⟩) = none := rfl
@[go_sem] theorem callA_move (x : Operand) : callA ti s (.move x) = none := rfl
@[go_sem] theorem callA_assign (x : Operand) : callA ti s (.assign x) = none := rfl
@[go_sem] theorem callA_pick (c a b : Operand) : callA ti s (.pick c a b) = none := rfl
@[go_sem] theorem callA_alloc (t : TypeId) : callA ti s (.alloc t) = none := rfl
@[go_sem] theorem callA_box (t : TypeId) (x : Operand) : callA ti s (.box t x) = none := rfl
@[go_sem] theorem callA_build (t : TypeId) (parts : Array (Nat × Operand)) : callA ti s (.build t parts) = none := rfl
@[go_sem] theorem callA_buildSlice (t : TypeId) (n : Nat) (parts : Array (Nat × Operand)) : callA ti s (.buildSlice t n parts) = none := rfl
@[go_sem] theorem callA_load (t : TypeId) (x : Operand) : callA ti s (.load t x) = none := rfl
@[go_sem] theorem callA_store (t : TypeId) (a x : Operand) : callA ti s (.store t a x) = none := rfl
@[go_sem] theorem callA_nilCheck (x : Operand) : callA ti s (.nilCheck x) = none := rfl
@[go_sem] theorem callA_binOp (op : BinOp) (t : TypeId) (x y : Operand) (yt : TypeId) : callA ti s (.binOp op t x y yt) = none := rfl
@[go_sem] theorem callA_unOp (op : UnOp) (t : TypeId) (x : Operand) : callA ti s (.unOp op t x) = none := rfl
@[go_sem] theorem callA_convert (src dst : TypeId) (x : Operand) : callA ti s (.convert src dst x) = none := rfl
@[go_sem] theorem callA_fieldAddr (t : TypeId) (x : Operand) (f : Nat) : callA ti s (.fieldAddr t x f) = none := rfl
@[go_sem] theorem callA_field (t : TypeId) (x : Operand) (f : Nat) : callA ti s (.field t x f) = none := rfl
@[go_sem] theorem callA_indexAddr (t : TypeId) (x i : Operand) : callA ti s (.indexAddr t x i) = none := rfl
@[go_sem] theorem callA_slice (t : TypeId) (x : Operand) (lo hi mx : Option Operand) : callA ti s (.slice t x lo hi mx) = none := rfl
@[go_sem] theorem callA_makeSlice (t : TypeId) (l c : Operand) : callA ti s (.makeSlice t l c) = none := rfl
@[go_sem] theorem callA_extract (x : Operand) (i : Nat) : callA ti s (.extract x i) = none := rfl
end
attribute [go_sem] wantA argsA evO cst look rem upd partsA cmpA eqL binA numB isNil loadA storeA stc tab fieldA fldA partA indexA zcells fillA sizes buildA litA litObj reps appendA lenA copyA boundA sliceA St.put A1.cells scal nilOk TI.agg resL tupA inT minus thenQ blockQ finQ
@[go_sem] theorem nbeq (a b : Nat) : Nat.beq a b = (a == b) := by
  cases h : Nat.beq a b with
  | true => have := Nat.eq_of_beq_eq_true h; simp [this]
  | false => have := Nat.ne_of_beq_eq_false h; simp [this]
@[go_sem] theorem nble (a b : Nat) : Nat.ble a b = decide (a ≤ b) := by
  cases h : Nat.ble a b with
  | true => have := Nat.le_of_ble_eq_true h; simp [this]
  | false => have : ¬ a ≤ b := fun hh => by rw [Nat.ble_eq_true_of_le hh] at h; cases h
             simp [this]
@[go_sem] theorem beq_add (k n : Nat) : (k == k + (n + 1)) = false := by simp
@[go_sem] theorem add_beq (k n : Nat) : (k + (n + 1) == k) = false := by simp
attribute [go_sem] cond_true cond_false Option.map plain
attribute [go_sem] List.all List.drop List.take List.length List.map List.cons_append List.nil_append List.append_nil List.getElem?_cons_zero List.getElem?_cons_succ List.getElem?_nil List.toList_toArray
attribute [go_sem] List.getD_cons_zero List.getD_cons_succ List.getD_nil exists_const
attribute [go_sem] true_and and_true eq_self Bool.and_self Bool.true_and Bool.and_true Bool.not_true Bool.not_false Bool.or_true Bool.true_or Bool.or_false Bool.false_or Bool.false_and Bool.and_false
attribute [go_sem] AObj.void clr clrL keepL memN pickH dropH putL loadK avle a1le sle rn tupA All2 hsub allP A1.flat AV.flat hflat
@[go_sem] theorem tle_self {x : TV} : tle x x = True := by simp [tle_refl]
/-! Rows held against rows, by name. -/
def rle (H : Heap) (fz : Nat → Prop) (τ : List (Nat × Nat)) (N wd n : Nat) (f g : Nat → Nat → Cell) : Prop := ∀ i, i < n → ∀ j, j < wd → cle H fz τ N (f i j) (g i j)
def tlr (H : Heap) (fz : Nat → Prop) (n wd s m : Nat) (f : Nat → Nat → Cell) (g : Nat → Nat → TV) : Prop := ∀ i, i < m → ∀ j, j < wd → tof H fz n (f (s + i) j) (g i j)
def tlT (wd n : Nat) (f g : Nat → Nat → TV) : Prop := ∀ i, i < n → ∀ j, j < wd → tle (f i j) (g i j)
@[go_sem] theorem tlT_self {wd n : Nat} {f : Nat → Nat → TV} : tlT wd n f f = True := by simp [tlT, tle_refl]
@[go_sem] theorem rle_none {H : Heap} {fz : Nat → Prop} {τ : List (Nat × Nat)} {N wd : Nat} {f g : Nat → Nat → Cell} : rle H fz τ N wd 0 f g = True := by simp [rle]
@[go_sem] theorem tlr_none {H : Heap} {fz : Nat → Prop} {n wd s : Nat} {f : Nat → Nat → Cell} {g : Nat → Nat → TV} : tlr H fz n wd s 0 f g = True := by simp [tlr]
@[go_sem] theorem tle_v {x y : Value} : tle (.v x) (.v y) = (x = y) := rfl
@[go_sem] theorem tle_v_sl {x : Value} {w n : Nat} {f : Nat → Nat → TV} : tle (.v x) (.sl w n f) = (x = .slice none 0 0 ∧ n = 0) := rfl
@[go_sem] theorem tle_sl {w n w' n' : Nat} {f g : Nat → Nat → TV} : tle (.sl w n f) (.sl w' n' g) = (w = w' ∧ n = n' ∧ tlT w n f g) := rfl
@[go_sem] theorem tle_ptr {w w' : Nat} {f g : Nat → TV} : tle (.ptr w f) (.ptr w' g) = (w = w' ∧ ∀ j, j < w → tle (f j) (g j)) := rfl
@[go_sem] theorem tof_t {H : Heap} {fz : Nat → Prop} {n : Nat} {x y : TV} : tof H fz n (.t x) y = tle x y := by cases n <;> rfl
/-- All cells of a list, by their places. -/
def allIx (p : Nat → Cell → Prop) : Nat → List Cell → Prop
  | _, [] => True
  | k, c :: l => p k c ∧ allIx p (k + 1) l
theorem allIx_iff {p : Nat → Cell → Prop} : ∀ {l : List Cell} {k : Nat}, allIx p k l ↔ ∀ j c, l[j]? = some c → p (k + j) c
  | [], k => by simp [allIx]
  | x :: l, k => by
    simp only [allIx, allIx_iff (l := l)]
    constructor
    · rintro ⟨h1, h2⟩ j c hj
      cases j with
      | zero => simp at hj; subst hj; exact h1
      | succ j => have := h2 j c (by simpa using hj); rw [show k + (j + 1) = k + 1 + j from by omega]; exact this
    · intro h
      exact ⟨by simpa using h 0 x (by simp), fun j c hj => by rw [show k + 1 + j = k + (j + 1) from by omega]; exact h (j + 1) c (by simpa using hj)⟩
def tofR (H : Heap) (fz : Nat → Prop) (n wd s m : Nat) (g : Nat → Nat → TV) : Option AObj → Prop
  | some (.row wd'' k f) => wd'' = wd ∧ s + m ≤ k ∧ tlr H fz n wd s m f g
  | some (.box l) => s = 0 ∧ m * wd ≤ l.length ∧ allIx (fun k c => tof H fz n c (g (k / wd) (k % wd))) 0 l
  | _ => False
def tofB (H : Heap) (fz : Nat → Prop) (n o w' : Nat) (g : Nat → TV) : Option AObj → Prop
  | some (.box l) => o = 0 ∧ w' = l.length ∧ allIx (fun k c => tof H fz n c (g k)) 0 l
  | _ => False
@[go_sem] theorem tof_sl {H : Heap} {fz : Nat → Prop} {n h wd s m wd' m' : Nat} {g : Nat → Nat → TV} : tof H fz (n + 1) (.sl h wd s m) (.sl wd' m' g) = (fz h ∧ wd = wd' ∧ m = m' ∧ tofR H fz n wd s m g (look h H)) := by
  simp only [tof]
  rcases look h H with _ | (_ | _ | _) <;> (try rfl)
  simp only [tofR, allIx_iff, Nat.zero_add]
@[go_sem] theorem tof_ptr {H : Heap} {fz : Nat → Prop} {n h wd i j w' : Nat} {g : Nat → TV} : tof H fz (n + 1) (.ptr h wd i j) (.ptr w' g) = (fz h ∧ tofB H fz n (i * wd + j) w' g (look h H)) := by
  simp only [tof]
  rcases look h H with _ | (_ | _ | _) <;> (try rfl)
  simp only [tofB, allIx_iff, Nat.zero_add]
attribute [go_sem] tofR tofB allIx
def rflat (wd n : Nat) (f : Nat → Nat → Cell) : Prop := ∀ i, i < n → ∀ j, j < wd → (f i j).flat
@[go_sem] theorem flat_v {x : Value} : (Cell.t (.v x)).flat = True := rfl
@[go_sem] theorem flat_tsl {w n : Nat} {f : Nat → Nat → TV} : (Cell.t (.sl w n f)).flat = False := rfl
@[go_sem] theorem flat_tptr {w : Nat} {f : Nat → TV} : (Cell.t (.ptr w f)).flat = False := rfl
@[go_sem] theorem flat_ptr {h wd i j : Nat} : (Cell.ptr h wd i j).flat = True := rfl
@[go_sem] theorem flat_sl {h wd s n : Nat} : (Cell.sl h wd s n).flat = True := rfl
@[go_sem] theorem flat_mp {h : Nat} : (Cell.mp h).flat = True := rfl
@[go_sem] theorem flat_ch {h : Nat} : (Cell.ch h).flat = True := rfl
@[go_sem] theorem flat_fp {q : Bool} {f : FuncId} {h wd i j : Nat} : (Cell.fp q f h wd i j).flat = True := rfl
@[go_sem] theorem flat_box {l : List Cell} : (AObj.box l).flat = allP Cell.flat l := rfl
@[go_sem] theorem flat_row {wd n : Nat} {f : Nat → Nat → Cell} : (AObj.row wd n f).flat = rflat wd n f := rfl
@[go_sem] theorem flat_raw {o : Obj} : (AObj.raw o).flat = True := rfl
@[go_sem] theorem rflat_none {wd : Nat} {f : Nat → Nat → Cell} : rflat wd 0 f = True := by simp [rflat]
section
variable {H : Heap} {fz : Nat → Prop} {τ : List (Nat × Nat)} {N : Nat}
@[go_sem] theorem cle_t {x : Cell} {y : TV} : cle H fz τ N x (.t y) = tof H fz 6 x y := by cases x <;> rfl
@[go_sem] theorem cle_ptr {h wd i j h' wd' i' j' : Nat} : cle H fz τ N (.ptr h wd i j) (.ptr h' wd' i' j') = (h = rn τ h' ∧ h' < N ∧ i * wd + j = i' * wd' + j') := rfl
@[go_sem] theorem cle_sl {h wd s n h' wd' s' n' : Nat} : cle H fz τ N (.sl h wd s n) (.sl h' wd' s' n') = (h = rn τ h' ∧ h' < N ∧ wd = wd' ∧ s = s' ∧ n = n') := rfl
@[go_sem] theorem cle_nil {h wd s n : Nat} : cle H fz τ N (.t (.v (.slice none 0 0))) (.sl h wd s n) = (n = 0) := rfl
@[go_sem] theorem cle_tp {wd wd' j j' : Nat} {f g : Nat → TV} : cle H fz τ N (.tp wd f j) (.tp wd' g j') = (wd = wd' ∧ j = j' ∧ ∀ k, k < wd → tle (f k) (g k)) := rfl
@[go_sem] theorem cle_mp {h h' : Nat} : cle H fz τ N (.mp h) (.mp h') = (h = rn τ h' ∧ h' < N) := rfl
@[go_sem] theorem cle_ch {h h' : Nat} : cle H fz τ N (.ch h) (.ch h') = (h = rn τ h' ∧ h' < N) := rfl
@[go_sem] theorem cle_fp {q q' : Bool} {f f' : FuncId} {h wd i j h' wd' i' j' : Nat} : cle H fz τ N (.fp q f h wd i j) (.fp q' f' h' wd' i' j') = (q = q' ∧ f = f' ∧ h = rn τ h' ∧ h' < N ∧ i * wd + j = i' * wd' + j') := rfl
@[go_sem] theorem ole_box {l m : List Cell} : ole H fz τ N (.box l) (.box m) = All2 (cle H fz τ N) l m := rfl
@[go_sem] theorem ole_row {wd n wd' n' : Nat} {f g : Nat → Nat → Cell} : ole H fz τ N (.row wd n f) (.row wd' n' g) = (wd = wd' ∧ n' ≤ n ∧ rle H fz τ N wd n' f g) := rfl
@[go_sem] theorem ole_raw {o o' : Obj} : ole H fz τ N (.raw o) (.raw o') = (o = o') := rfl
end
attribute [go_sem] implies_true and_self Value.bool.injEq Value.int.injEq Value.string.injEq List.mem_cons List.not_mem_nil or_false false_or or_true true_or not_false_eq_true not_true_eq_false false_and and_false

theorem mixed : Go.Proofs.Tryz.prog.follows .mixedOrders = true := by kernel_rfl
theorem Fits.of {x : Int} (h1 : -9223372036854775808 ≤ x) (h2 : x ≤ 9223372036854775807) : Fits .i64 x := ⟨h1, h2⟩
theorem allP_mem {α : Type} {p : α → Prop} : ∀ {l : List α}, allP p l → ∀ x ∈ l, p x
  | [], _, x, hx => by cases hx
  | y :: l, h, x, hx => by
    rcases List.mem_cons.1 hx with e | e
    · rw [e]; exact h.1
    · exact allP_mem h.2 x e

def isIn (h : Heap) (k : Nat) : Prop := match look k h with
  | some _ => True
  | none => False
attribute [go_sem] isIn

/-- One state says no more than another one, in one sum for the simplifier. -/
theorem SLe.of {c : Ctx} {s s' : St} (τ : List (Nat × Nat)) (fz : List Nat)
    (h : allP (fun x : Nat × Nat => c.k0 ≤ x.1) τ ∧ c.k0 ≤ s'.nx ∧ allP (isIn s.h) fz ∧ sle s.h (fun h => h ∈ fz) τ s'.nx s.t s'.t ∧ hle s.h (fun h => h ∈ fz) τ s'.nx s'.h) : SLe c s s' := by
  obtain ⟨h1, h2, h3, h4, h5⟩ := h
  refine SLe.mk τ (fun h => h ∈ fz) (allP_mem h1) h2 (fun h hh => ?_) h4 h5
  have := allP_mem h3 h hh
  unfold isIn at this
  split at this
  · rename_i o ho; exact ⟨o, ho⟩
  · exact this.elim

@[go_sem] theorem rnF_nil (N h : Nat) : rnF [] N h = N + h := by simp [rnF]
@[go_sem] theorem rnF_zero (x : Nat) (σ : List Nat) (N : Nat) : rnF (x :: σ) N 0 = x := by simp [rnF]
@[go_sem] theorem rnF_succ (x : Nat) (σ : List Nat) (N h : Nat) : rnF (x :: σ) N (h + 1) = rnF σ N h := by simp [rnF]
attribute [go_sem] Cell.ren A1.ren AV.ren hren Nat.zero_add Nat.add_zero and_self
/-! Functions of cells by name. -/
def liftT (f : Nat → Nat → TV) : Nat → Nat → Cell := fun i j => .t (f i j)
def shF (s : Nat) (f : Nat → Nat → Cell) : Nat → Nat → Cell := fun i j => f (s + i) j
def renF (g : Nat → Nat) (f : Nat → Nat → Cell) : Nat → Nat → Cell := fun i j => (f i j).ren g
def mkF (z : List Cell) : Nat → Nat → Cell := fun _ j => z.getD j (.t (.v (.bool false)))
def subT (s : Nat) (f : Nat → Nat → TV) : Nat → Nat → TV := fun i j => f (s + i) j
def elemsR (wd s n : Nat) : AObj → Option (Prop × Nat × Nat × (Nat → Nat → Cell))
  | .row wd' m f => obf (Nat.beq wd wd') (some (s + n ≤ m, wd, n, shF s f))
  | _ => none
attribute [go_sem] elemsR
@[go_sem] theorem elemsA_tree {h : Heap} {wd n : Nat} {f : Nat → Nat → TV} : elemsA h (.c (.t (.sl wd n f))) = some (True, wd, n, liftT f) := rfl
@[go_sem] theorem elemsA_sl {h : Heap} {k wd s n : Nat} : elemsA h (.c (.sl k wd s n)) = ob (look k h) (elemsR wd s n) := by
  simp only [elemsA]
  rcases look k h with _ | (_ | _ | _) <;> rfl
@[go_sem] theorem ren_box {g : Nat → Nat} {l : List Cell} : (AObj.box l).ren g = .box (l.map (Cell.ren g)) := rfl
@[go_sem] theorem ren_row {g : Nat → Nat} {wd n : Nat} {f : Nat → Nat → Cell} : (AObj.row wd n f).ren g = .row wd n (renF g f) := rfl
@[go_sem] theorem ren_raw {g : Nat → Nat} {o : Obj} : (AObj.raw o).ren g = .raw o := rfl
@[go_sem] theorem shF_zero {f : Nat → Nat → Cell} : shF 0 f = f := by funext i j; unfold shF; rw [Nat.zero_add]
@[go_sem] theorem subT_zero {f : Nat → Nat → TV} : subT 0 f = f := by funext i j; unfold subT; rw [Nat.zero_add]
def makeK (te : TI) : A1 → A1 → Option (Prop × Nat × Nat × (Nat → Nat → Cell))
  | .c (.t (.v (.int _ n))), .c (.t (.v (.int _ m))) => ob (zcells te) fun z => obf (Nat.beq z.length te.size && Nat.ble 1 te.size && Nat.ble te.bytes 4096) (some (0 ≤ n ∧ n = m ∧ m ≤ 1000000, te.size, n.toNat, mkF z))
  | _, _ => none
def eltK : TK → Option Nat
  | .sli e => some e
  | _ => none
attribute [go_sem] makeK eltK
@[go_sem] theorem makeA_eq {ti : Nat → Option TI} {t : Nat} {l c : A1} : makeA ti t l c = ob (ti t) fun tx => ob (eltK tx.k) fun e => ob (ti e) fun te => makeK te l c := by
  unfold makeA
  rcases ti t with _ | ⟨k, _, _, _, _⟩ <;> (try rfl)
  cases k <;> (try rfl)
  rename_i e
  dsimp only [ob, eltK]
  rcases ti e with _ | te <;> (try rfl)
  dsimp only
  rcases l with (l | _) | _ <;> (try rfl)
  rcases l with l | _ | _ <;> (try rfl)
  cases l <;> (try rfl)
  rcases c with (c | _ | _ | _ | _ | _ | _) | _ <;> (try rfl)
  rcases c with c | _ | _ <;> (try rfl)
  cases c <;> (try rfl)
  dsimp only [makeK]
  rcases zcells te with _ | z <;> rfl
def sliceK (s : St) (te : TI) (lo hi : Option Operand) : A1 → Option (Prop × A1)
  | .c (.sl k wd q n) => ob (boundA s 0 lo) fun l => ob (boundA s n hi) fun h => obf (Nat.beq wd te.size) (some (0 ≤ l ∧ l < h ∧ h ≤ n, .c (.sl k wd (q + l.toNat) (h - l).toNat)))
  | .c (.t (.sl wd n f)) => ob (boundA s 0 lo) fun l => ob (boundA s n hi) fun h => obf (Nat.beq wd te.size) (some (0 ≤ l ∧ l ≤ h ∧ h ≤ n ∧ (l = 0 ∨ l < n), .c (.t (.sl wd (h - l).toNat (subT l.toNat f)))))
  | _ => none
theorem and_of_imp {p q : Prop} (h1 : p) (h2 : p → q) : p ∧ q := ⟨h1, h2 h1⟩

/-- How a body ends, step by step: what it returns, that it may be read, and what it leaves. -/
theorem Fin.mk' {ti : Nat → Option TI} {rs : List ResultVar} {k : Nat} {res : AV} {H' : Heap} {k' : Nat} {s : St} (τ : List (Nat × Nat)) (fz : List Nat) {p : Prop} {l : List A1}
    (h0 : resL ti s rs = some (p, l)) (h1 : p) (h2 : allP (fun x : Nat × Nat => k ≤ x.1) τ) (h4 : avle s.h (fun h => h ∈ fz) τ k' (tupA l) res) (h5 : hle s.h (fun h => h ∈ fz) τ k' H') (h3 : allP (isIn s.h) fz) : Fin ti rs k res H' k' s := by
  refine ⟨τ, fun h => h ∈ fz, p, l, h0, h1, allP_mem h2, fun h hh => ?_, h4, h5⟩
  have := allP_mem h3 h hh
  unfold isIn at this
  split at this
  · rename_i o ho; exact ⟨o, ho⟩
  · exact this.elim
theorem Fin.mk {ti : Nat → Option TI} {rs : List ResultVar} {k : Nat} {res : AV} {H' : Heap} {k' : Nat} {s : St} (τ : List (Nat × Nat)) (fz : List Nat)
    (h : match resL ti s rs with
      | some (p, l) => p ∧ allP (fun x : Nat × Nat => k ≤ x.1) τ ∧ allP (fun h => match look h s.h with | some _ => True | none => False) fz ∧ avle s.h (fun h => h ∈ fz) τ k' (tupA l) res ∧ hle s.h (fun h => h ∈ fz) τ k' H'
      | none => False) : Fin ti rs k res H' k' s := by
  split at h
  · rename_i p l he
    obtain ⟨h1, h2, h3, h4, h5⟩ := h
    refine ⟨τ, fun h => h ∈ fz, p, l, he, h1, ?_, ?_, h4, h5⟩
    · have : ∀ {l : List (Nat × Nat)}, allP (fun x : Nat × Nat => k ≤ x.1) l → ∀ x ∈ l, k ≤ x.1 := by
        intro l
        induction l with
        | nil => intro _ x hx; cases hx
        | cons y l ih =>
          intro hl x hx
          rcases List.mem_cons.1 hx with e | e
          · rw [e]; exact hl.1
          · exact ih hl.2 x e
      exact this h2
    · have : ∀ {l : List Nat}, allP (fun h => match look h s.h with | some _ => True | none => False) l → ∀ x ∈ l, ∃ o, look x s.h = some o := by
        intro l
        induction l with
        | nil => intro _ x hx; cases hx
        | cons y l ih =>
          intro hl x hx
          rcases List.mem_cons.1 hx with e | e
          · have := hl.1
            rw [e]
            dsimp only at this
            split at this
            · rename_i o ho; exact ⟨o, ho⟩
            · exact this.elim
          · exact ih hl.2 x e
      exact this h3
  · exact h.elim

/-! The names under which handles are handed on, found by holding what is there against what is to be there. -/
def colC (k : Nat) : Cell → Cell → List (Nat × Nat)
  | .sl h _ _ _, .sl h' _ _ _ => bif Nat.ble k h' then [(h', h)] else []
  | .ptr h _ _ _, .ptr h' _ _ _ => bif Nat.ble k h' then [(h', h)] else []
  | .t (.v (.slice none 0 0)), .sl h' _ _ _ => bif Nat.ble k h' then [(h', 1000000 + h')] else []
  | .mp h, .mp h' => bif Nat.ble k h' then [(h', h)] else []
  | .ch h, .ch h' => bif Nat.ble k h' then [(h', h)] else []
  | .fp _ _ h _ _ _, .fp _ _ h' _ _ _ => bif Nat.ble k h' then [(h', h)] else []
  | _, _ => []
def colL (k : Nat) : List Cell → List Cell → List (Nat × Nat)
  | x :: l, y :: m => colC k x y ++ colL k l m
  | _, _ => []
def colA (k : Nat) : A1 → A1 → List (Nat × Nat)
  | .c x, .c y => colC k x y
  | .g l, .g m => colL k l m
  | _, _ => []
def colAs (k : Nat) : List A1 → List A1 → List (Nat × Nat)
  | x :: l, y :: m => colA k x y ++ colAs k l m
  | _, _ => []
def colV (k : Nat) : AV → AV → List (Nat × Nat)
  | .o x, .o y => colA k x y
  | .tup l, .tup m => colAs k l m
  | _, _ => []
def colO (k : Nat) (τ : List (Nat × Nat)) (m : List Cell) : Option AObj → List (Nat × Nat)
  | some (.box l) => τ ++ colL k l m
  | _ => τ
def colH (k : Nat) (H : Heap) : Heap → List (Nat × Nat) → List (Nat × Nat)
  | [], τ => τ
  | (h', .box m) :: r, τ => colH k H r (colO k τ m (look (rn τ h') H))
  | (_, .row _ _ _) :: r, τ => colH k H r τ
  | (_, .raw _) :: r, τ => colH k H r τ
def colS (k : Nat) (v' : AV) : Option AV → List (Nat × Nat)
  | some v => colV k v v'
  | none => []
def colT (k : Nat) (t : List (Nat × AV)) : List (Nat × AV) → List (Nat × Nat)
  | [] => []
  | (j, v') :: r => colS k v' (look j t) ++ colT k t r
def nms (τ : List (Nat × Nat)) : Heap → List Nat
  | [] => []
  | (h', _) :: r => rn τ h' :: nms τ r
def nodN : List Nat → Bool
  | [] => true
  | x :: r => !memN x r && nodN r
def hlo (H : Heap) (fz τ : List (Nat × Nat)) (N : Nat) (fzl : List Nat) (o' : AObj) : Option AObj → Prop
  | some o => ole H (fun h => h ∈ fzl) τ N o o'
  | none => o'.void = true
def hlx (H : Heap) (fz : List Nat) (τ : List (Nat × Nat)) (N : Nat) : Heap → List Nat → Prop
  | (h', o') :: r, n :: ns => Nat.blt h' N = true ∧ memN n fz = false ∧ hlo H τ τ N fz o' (look n H) ∧ hlx H fz τ N r ns
  | [], [] => True
  | _, _ => False
theorem memN_iff {k : Nat} : ∀ {l : List Nat}, memN k l = false → k ∉ l
  | [], _ => by simp
  | j :: r, h => by
    simp only [memN, cond_eq_ite] at h
    split at h
    · cases h
    · rename_i e
      have e : j ≠ k := by simpa using e
      simp only [List.mem_cons, not_or]
      exact ⟨fun h => e h.symm, memN_iff h⟩
theorem hlx_hle {H : Heap} {fz : List Nat} {τ : List (Nat × Nat)} {N : Nat} : ∀ {H' : Heap}, nodN (nms τ H') = true → hlx H fz τ N H' (nms τ H') → hle H (fun h => h ∈ fz) τ N H'
  | [], _, _ => trivial
  | (h', o') :: r, h1, h2 => by
    simp only [nms, nodN, Bool.and_eq_true, Bool.not_eq_true'] at h1
    simp only [nms, hlx] at h2
    obtain ⟨a1, a2, a3, a4⟩ := h2
    refine ⟨by simpa [Nat.blt_eq] using a1, memN_iff a2, ?_, ?_, hlx_hle h1.2 a4⟩
    · unfold hlo at a3
      exact a3
    · rw [List.all_eq_true]
      intro x hx
      have hx2 : rn τ x.1 ∈ nms τ r := by
        have : ∀ {r : Heap}, x ∈ r → rn τ x.1 ∈ nms τ r := by
          intro r
          induction r with
          | nil => intro h; cases h
          | cons y r ih =>
            intro h
            rcases List.mem_cons.1 h with e | e
            · rw [e]; simp [nms]
            · simp [nms, ih e]
        exact this hx
      cases hb : Nat.beq (rn τ x.1) (rn τ h') with
      | false => rfl
      | true =>
        have := Nat.eq_of_beq_eq_true hb
        rw [this] at hx2
        exact absurd hx2 (memN_iff h1.1)
def finG (s : St) (fz : List Nat) (k k' : Nat) (res : AV) (H' : Heap) (l : List A1) (τ : List (Nat × Nat)) : Prop :=
  allP (fun x : Nat × Nat => Nat.ble k x.1 = true) τ ∧ allP (isIn s.h) fz ∧ avle s.h (fun h => h ∈ fz) τ k' (tupA l) res ∧ nodN (nms τ H') = true ∧ hlx s.h fz τ k' H' (nms τ H')
def finO (s : St) (fz : List Nat) (k k' : Nat) (res : AV) (H' : Heap) : Option (Prop × List A1) → Prop
  | some (p, l) => p ∧ finG s fz k k' res H' l (colH k s.h H' (colV k (tupA l) res))
  | none => False
theorem isIn_some {H : Heap} {h : Nat} (hh : isIn H h) : ∃ o, look h H = some o := by
  unfold isIn at hh
  split at hh
  · rename_i o ho; exact ⟨o, ho⟩
  · exact hh.elim
/-- HOW A BODY ENDS, the names being found. -/
theorem Fin.auto {ti : Nat → Option TI} {rs : List ResultVar} {k : Nat} {res : AV} {H' : Heap} {k' : Nat} {s : St} (fz : List Nat) (h : finO s fz k k' res H' (resL ti s rs)) : Fin ti rs k res H' k' s := by
  unfold finO at h
  split at h
  · rename_i p l he
    obtain ⟨h1, h2, h3, h4, h5, h6⟩ := h
    exact ⟨_, fun h => h ∈ fz, p, l, he, h1, fun x hx => Nat.le_of_ble_eq_true (allP_mem h2 x hx), fun h hh => isIn_some (allP_mem h3 h hh), h4, hlx_hle h5 h6⟩
  · exact h.elim
def sleG (s s' : St) (fz : List Nat) (k : Nat) (τ : List (Nat × Nat)) : Prop :=
  allP (fun x : Nat × Nat => Nat.ble k x.1 = true) τ ∧ Nat.ble k s'.nx = true ∧ allP (isIn s.h) fz ∧ sle s.h (fun h => h ∈ fz) τ s'.nx s.t s'.t ∧ nodN (nms τ s'.h) = true ∧ hlx s.h fz τ s'.nx s'.h (nms τ s'.h)
theorem SLe.auto {c : Ctx} {s s' : St} {k : Nat} (hk : c.k0 = k) (fz : List Nat) (h : sleG s s' fz k (colH k s.h s'.h (colT k s.t s'.t))) : SLe c s s' := by
  obtain ⟨h1, h2, h3, h4, h5, h6⟩ := h
  exact SLe.mk _ (fun h => h ∈ fz) (fun x hx => hk ▸ Nat.le_of_ble_eq_true (allP_mem h1 x hx)) (hk ▸ Nat.le_of_ble_eq_true h2) (fun h hh => isIn_some (allP_mem h3 h hh)) h4 (hlx_hle h5 h6)
attribute [go_sem] colC colL colA colAs colV colO colH colS colT nms nodN hlo hlx finG finO sleG
@[go_sem] theorem nblt (a b : Nat) : Nat.blt a b = decide (a < b) := by
  show Nat.ble (a + 1) b = _
  rw [nble]; rfl
theorem aL {α : Type} [LT α] {a b : α} {q : Prop} (h1 : a < b) (h2 : a < b → q) : a < b ∧ q := ⟨h1, h2 h1⟩
theorem aE {α : Type} [LE α] {a b : α} {q : Prop} (h1 : a ≤ b) (h2 : a ≤ b → q) : a ≤ b ∧ q := ⟨h1, h2 h1⟩
theorem aC {α β : Type} [LE α] [LT β] {a b : α} {c d : β} {q : Prop} (h1 : a ≤ b ∧ c < d) (h2 : (a ≤ b ∧ c < d) → q) : (a ≤ b ∧ c < d) ∧ q := ⟨h1, h2 h1⟩
theorem nT (b : Bool) : ((!b) = true) = (b = false) := Bool.not_eq_true' b
theorem nF (b : Bool) : ((!b) = false) = (b = true) := Bool.not_eq_false' b
theorem n1 : (!true) = false := rfl
theorem n0 : (!false) = true := rfl
theorem dT {p : Prop} [Decidable p] : (decide p = true) = p := decide_eq_true_eq
theorem dF {p : Prop} [Decidable p] : (decide p = false) ↔ ¬ p := decide_eq_false_iff_not
theorem eT {α : Type} [BEq α] [LawfulBEq α] {a b : α} : (a == b) = true ↔ a = b := beq_iff_eq
theorem eF {α : Type} [BEq α] [LawfulBEq α] {a b : α} : (a == b) = false ↔ a ≠ b := beq_eq_false_iff_ne
attribute [go_sem] Nat.add_assoc Int.toNat_natCast beq_self_eq_true decide_true decide_false Nat.le_refl eq_self
end Go.Hw
/- What is proved: small facts of the plain data of the two chains: what is checked of banks, states, chains and worlds, and what is done to them. -/
set_option linter.all false
namespace Go.Hw

structure Packet where
  seq : Int
  kind : Int
  src : Int
  dst : Int
  sum : Int
  till : Int
  ver : Int
  deriving DecidableEq, Inhabited

structure Bank where
  own : List Int
  notes : List Int
  locked : Int
  deriving DecidableEq, Inhabited

structure State where
  way : Int
  ver : Int
  want : Int
  sent : List Packet
  live : List Bool
  back : List Bool
  got : List Int
  deriving DecidableEq, Inhabited

structure Chain where
  id : Int
  bank : Bank
  state : State
  past : List State
  knows : List Int
  deriving DecidableEq, Inhabited

structure Event where
  kind : Int
  chain : Int
  height : Int
  n : Int
  packet : Packet
  deriving DecidableEq, Inhabited

def In (n l h : Int) : Bool := decide (l ≤ n) && decide (n ≤ h)
theorem In_iff {n l h : Int} : In n l h = true ↔ l ≤ n ∧ n ≤ h := by simp [In]
def rall (n : Nat) (p : Nat → Bool) : Bool := (List.range n).all p
theorem rall_iff {n : Nat} {p : Nat → Bool} : rall n p = true ↔ ∀ i, i < n → p i = true := by simp [rall]
theorem rall_zero {p : Nat → Bool} : rall 0 p = true := rfl
theorem rall_succ {n : Nat} {p : Nat → Bool} (h : rall n p = true) (hp : p n = true) : rall (n + 1) p = true := by
  rw [rall_iff] at *; intro i hi
  rcases Nat.lt_succ_iff_lt_or_eq.1 hi with h' | rfl
  · exact h i h'
  · exact hp
theorem rall_false {n i : Nat} {p : Nat → Bool} (hi : i < n) (hp : p i = false) : rall n p = false := by
  cases h : rall n p with
  | false => rfl
  | true => rw [rall_iff] at h; rw [h i hi] at hp; cases hp

def Packet.ok (p : Packet) : Bool := In p.seq 1 8 && (In p.kind 1 2 && (In p.src 1 3 && (In p.dst 0 3 && (In p.sum 1 9 && (In p.till 1 90 && In p.ver 1 9)))))
def isum (l : List Int) : Int := l.foldl (· + ·) 0
theorem isum_take (l : List Int) (i : Nat) (h : i < l.length) : isum (l.take (i + 1)) = isum (l.take i) + l.getD i 0 := by
  unfold isum
  rw [List.take_succ, List.foldl_append]
  simp [List.getD, h]
def parts (l : List Int) : Bool := rall l.length (fun i => In (l.getD i 0) 0 30) && decide ((l.length : Int) = 3)
theorem parts_len {l : List Int} (h : parts l = true) : l.length = 3 := by
  simp only [parts, Bool.and_eq_true, decide_eq_true_eq] at h; omega
theorem parts_get {l : List Int} (h : parts l = true) (i : Nat) : 0 ≤ l.getD i 0 ∧ l.getD i 0 ≤ 30 := by
  by_cases hi : i < l.length
  · simp only [parts, Bool.and_eq_true, rall_iff, In_iff] at h; exact h.1 i hi
  · simp [List.getD, List.getElem?_eq_none (Nat.le_of_not_lt hi)]
theorem parts_set {l : List Int} (h : parts l = true) {i : Nat} {v : Int} (hv : 0 ≤ v ∧ v ≤ 30) : parts (l.set i v) = true := by
  have hl := parts_len h
  simp only [parts, Bool.and_eq_true, rall_iff, In_iff, List.length_set, decide_eq_true_eq] at h ⊢
  refine ⟨fun k hk => ?_, h.2⟩
  have := h.1 k hk
  simp only [List.getD, List.getElem?_set] at *
  split
  · split
    · simpa using hv
    · simp
  · exact this
theorem parts_sum {l : List Int} (h : parts l = true) : ∀ i, i ≤ l.length → 0 ≤ isum (l.take i) ∧ isum (l.take i) ≤ 30 * i
  | 0, _ => by simp [isum]
  | i + 1, hi => by
    rw [isum_take l i (by omega)]
    have := parts_sum h i (by omega)
    have := parts_get h i
    omega
theorem parts_all {l : List Int} (h : parts l = true) : 0 ≤ isum l ∧ isum l ≤ 90 := by
  have := parts_sum h l.length (Nat.le_refl _)
  rw [List.take_length, parts_len h] at this; omega
def Bank.ok (b : Bank) : Bool := parts b.own && (parts b.notes && (decide (0 ≤ b.locked) && (decide (isum b.own + b.locked = 30) && decide (isum b.notes ≤ 30))))
theorem bank_ok {b : Bank} (h : b.ok = true) : parts b.own = true ∧ parts b.notes = true ∧ 0 ≤ b.locked ∧ isum b.own + b.locked = 30 ∧ isum b.notes ≤ 30 := by
  simpa [Bank.ok] using h
theorem Packet.eq_iff {p q : Packet} : p = q ↔ (p.seq = q.seq ∧ p.kind = q.kind ∧ p.src = q.src ∧ p.dst = q.dst ∧ p.sum = q.sum ∧ p.till = q.till ∧ p.ver = q.ver) := by
  cases p; cases q; simp
theorem contains_false {l : List Int} {n : Int} (h : ∀ j, j < l.length → l.getD j 0 ≠ n) : l.contains n = false := by
  cases hc : l.contains n with
  | false => rfl
  | true =>
    have hm : n ∈ l := by simpa using hc
    obtain ⟨i, hi, e⟩ := List.getElem_of_mem hm
    exact absurd (by simp [List.getD, hi, e]) (h i hi)
theorem contains_true {l : List Int} {n : Int} {i : Nat} (hi : i < l.length) (h : l.getD i 0 = n) : l.contains n = true := by
  have : n ∈ l := by rw [← h]; simp [List.getD, hi]
  simpa using this
def State.sentOk (s : State) (i : Nat) : Bool := (s.sent.getD i default).ok && (decide ((s.sent.getD i default).seq = (i : Int) + 1) && (!(s.live.getD i false && s.back.getD i false) && decide ((s.sent.getD i default).ver ≤ s.ver)))
def State.ok (s : State) : Bool := In s.way 0 4 && (In s.ver 1 9 && (decide ((s.sent.length : Int) ≤ 8) && (decide ((s.live.length : Int) = s.sent.length) && (decide ((s.back.length : Int) = s.sent.length) && (decide ((s.got.length : Int) = 8) &&
  (rall s.sent.length s.sentOk && (rall s.got.length (fun i => In (s.got.getD i 0) 0 2) && (bif decide (s.way = 4) then decide (s.want = s.ver + 1) && decide (s.want ≤ 9) else decide (s.want = 0)))))))))
theorem state_ok {s : State} (h : s.ok = true) : (0 ≤ s.way ∧ s.way ≤ 4) ∧ (1 ≤ s.ver ∧ s.ver ≤ 9) ∧ s.sent.length ≤ 8 ∧ s.live.length = s.sent.length ∧ s.back.length = s.sent.length ∧ s.got.length = 8 ∧
    (∀ i, i < s.sent.length → s.sentOk i = true) ∧ (∀ i, i < 8 → 0 ≤ s.got.getD i 0 ∧ s.got.getD i 0 ≤ 2) ∧ (if s.way = 4 then s.want = s.ver + 1 ∧ s.want ≤ 9 else s.want = 0) := by
  simp only [State.ok, Bool.and_eq_true, decide_eq_true_eq, In_iff, rall_iff] at h
  obtain ⟨h1, h2, h3, h4, h5, h6, h7, h8, h9⟩ := h
  have h6' : s.got.length = 8 := by omega
  refine ⟨h1, h2, by omega, by omega, by omega, h6', h7, fun i hi => h8 i (by omega), ?_⟩
  split
  · rename_i hw
    simpa [hw] using h9
  · rename_i hw
    simpa [hw] using h9
theorem sentOk_iff {s : State} {i : Nat} (h : s.sentOk i = true) : (s.sent.getD i default).ok = true ∧ (s.sent.getD i default).seq = (i : Int) + 1 ∧ (s.live.getD i false = false ∨ s.back.getD i false = false) ∧ (s.sent.getD i default).ver ≤ s.ver := by
  simpa [-List.getD_eq_getElem?_getD, State.sentOk] using h
def knowOk (l : List Int) (i : Nat) : Bool := In (l.getD i 0) 1 90 && !(decide (0 < (i : Int)) && decide (l.getD i 0 ≤ l.getD ((i : Int) - 1).toNat 0))
def Chain.ok (c : Chain) : Bool := In c.id 1 2 && (c.bank.ok && (c.state.ok && (decide ((c.past.length : Int) ≤ 90) && (rall c.past.length (fun i => (c.past.getD i default).ok) && rall c.knows.length (knowOk c.knows)))))
theorem chain_ok {c : Chain} (h : c.ok = true) : (1 ≤ c.id ∧ c.id ≤ 2) ∧ c.bank.ok = true ∧ c.state.ok = true ∧ c.past.length ≤ 90 ∧ (∀ i, i < c.past.length → (c.past.getD i default).ok = true) ∧ (∀ i, i < c.knows.length → knowOk c.knows i = true) := by
  simp only [Chain.ok, Bool.and_eq_true, decide_eq_true_eq, In_iff, rall_iff] at h
  obtain ⟨h1, h2, h3, h4, h5, h6⟩ := h
  exact ⟨h1, h2, h3, by omega, h5, h6⟩
theorem knows_ge {l : List Int} (h : ∀ i, i < l.length → knowOk l i = true) : ∀ i, i < l.length → (i : Int) + 1 ≤ l.getD i 0
  | 0, hi => by
    have := h 0 hi
    simp only [knowOk, Bool.and_eq_true, In_iff] at this
    omega
  | i + 1, hi => by
    have h1 := knows_ge h i (by omega)
    have h2 := h (i + 1) hi
    have e : (((i + 1 : Nat) : Int) - 1).toNat = i := by omega
    simp only [knowOk, e, Bool.and_eq_true, In_iff, Bool.not_eq_true', Bool.and_eq_false_iff, decide_eq_false_iff_not] at h2
    omega
theorem knows_len {l : List Int} (h : ∀ i, i < l.length → knowOk l i = true) : l.length ≤ 90 := by
  by_cases h0 : l.length = 0
  · omega
  · have h1 := knows_ge h (l.length - 1) (by omega)
    have h2 := h (l.length - 1) (by omega)
    simp only [knowOk, Bool.and_eq_true, In_iff] at h2
    omega
theorem filter_take (p : Int → Bool) (l : List Int) (i : Nat) (h : i < l.length) : (l.take (i + 1)).filter p = (l.take i).filter p ++ (if p (l.getD i 0) = true then [l.getD i 0] else []) := by
  rw [List.take_succ, List.filter_append]
  simp only [List.getD, List.getElem?_eq_getElem h, Option.getD_some, Option.toList_some]
  cases hp : p l[i] <;> simp [hp]
/-- A world: its chains. -/
def kOk (c o : Chain) : Bool := !(decide (0 < (c.knows.length : Int)) && decide ((o.past.length : Int) < c.knows.getD ((c.knows.length : Int) - 1).toNat 0))
def wOk (l : List Chain) : Bool := decide ((l.length : Int) = 2) && ((l.getD 0 default).ok && (decide ((l.getD 0 default).id = 1) && (kOk (l.getD 0 default) (l.getD 1 default) && ((l.getD 1 default).ok && (decide ((l.getD 1 default).id = 2) && kOk (l.getD 1 default) (l.getD 0 default))))))

def Bank.new : Bank := ⟨[10, 10, 10], [0, 0, 0], 0⟩
def State.new : State := ⟨0, 1, 0, [], [], [], List.replicate 8 0⟩
def Chain.new (id : Int) : Chain := ⟨id, Bank.new, State.new, [], []⟩

def Bank.list (b : Bank) (kind : Int) : List Int := if kind = 1 then b.own else b.notes
def Bank.put (b : Bank) (kind : Int) (l : List Int) : Bank := if kind = 1 then { b with own := l } else { b with notes := l }
def Bank.at (b : Bank) (kind u : Int) : Int := (b.list kind).getD (u - 1).toNat 0
def Bank.add (b : Bank) (kind u n : Int) : Bank := b.put kind ((b.list kind).set (u - 1).toNat (b.at kind u + n))

def Bank.dec (b : Bank) (kind u n : Int) : Bank := b.put kind ((b.list kind).set (u - 1).toNat (b.at kind u - n))
def Bank.moveB (b : Bank) (kind src dst sum : Int) : Bool := b.ok && (In kind 1 2 && (In src 1 3 && (In dst 1 3 && (decide (0 ≤ sum) && decide (sum ≤ b.at kind src)))))
def Bank.moveD (b : Bank) (kind src dst sum : Int) : Bank := (b.dec kind src sum).add kind dst sum
def Bank.none : Bank := ⟨[], [], 0⟩
/-- What is told of a move. -/
def Bank.moved (b : Bank) (kind src dst sum : Int) : Bank := if b.moveB kind src dst sum then b.moveD kind src dst sum else Bank.none
/-- Taken away. -/
def Bank.awayB (b : Bank) (kind src sum : Int) : Bool := decide (sum ≤ b.at kind src)
def Bank.awayD (b : Bank) (kind src sum : Int) : Bank := if kind = 1 then { b.dec kind src sum with locked := b.locked + sum } else b.dec kind src sum
def Bank.away (b : Bank) (kind src sum : Int) : Bank := if b.awayB kind src sum then b.awayD kind src sum else b
/-- Given back. -/
def Bank.backB (b : Bank) (kind dst sum : Int) : Bool := !(decide (kind = 1) && decide (b.locked < sum) || decide (kind = 2) && decide (30 < isum b.notes + sum))
def Bank.backD (b : Bank) (kind dst sum : Int) : Bank := if kind = 1 then { b.add kind dst sum with locked := b.locked - sum } else b.add kind dst sum

def Bank.back (b : Bank) (kind dst sum : Int) : Bank := if b.backB kind dst sum then b.backD kind dst sum else b
def State.hasB (s : State) (p : Packet) : Bool := In p.seq 1 s.sent.length && (decide (s.sent.getD (p.seq - 1).toNat default = p) && s.live.getD (p.seq - 1).toNat false)
def liveN (l : List Bool) : Nat := (l.filter id).length
def State.lives (s : State) : Nat := liveN s.live
def State.gotAt (s : State) (seq : Int) : Int := s.got.getD (seq - 1).toNat 0

def wayMay (s o : State) (step : Int) : Bool :=
  if step = 1 then decide (s.way = 0)
  else if step = 2 then decide (s.way ≤ 1) && (decide (o.way = 1) || decide (o.way = 2))
  else if step = 3 then decide (s.way = 1) && decide (2 ≤ o.way)
  else if step = 4 then decide (s.way = 2) && decide (2 ≤ o.way)
  else if step = 5 then decide (s.way = 3) && decide (s.ver < 9)
  else if step = 6 then decide (s.way = 3) && (decide (o.way = 4) && decide (o.want = s.ver + 1))
  else if step = 7 then decide (s.way = 4) && (decide ((s.lives : Int) = 0) && (decide (o.way = 4) && (decide (o.want = s.want) && decide ((o.lives : Int) = 0)) || decide (o.ver = s.want)))
  else false
def wayDo (s o : State) (step : Int) : State :=
  if step = 1 then { s with way := 1 }
  else if step = 2 then { s with way := 2 }
  else if step = 3 ∨ step = 4 then { s with way := 3 }
  else if step = 5 then { s with way := 4, want := s.ver + 1 }
  else if step = 6 then { s with way := 4, want := o.want }
  else if step = 7 then { s with way := 3, ver := s.want, want := 0 }
  else s

def Chain.block (c : Chain) : Chain := if (c.past.length : Int) < 90 then { c with past := c.past ++ [c.state] } else c
def Chain.packet (c : Chain) (kind src dst sum till : Int) : Packet := ⟨c.state.sent.length + 1, kind, src, dst, sum, till, c.state.ver⟩
def Chain.sendB (c : Chain) (kind src dst sum till : Int) : Bool := decide (c.state.way = 3) && ((c.packet kind src dst sum till).ok && c.bank.awayB kind src sum)
def Chain.sendD (c : Chain) (kind src dst sum till : Int) : Chain :=
  { c with bank := c.bank.awayD kind src sum, state := { c.state with sent := c.state.sent ++ [c.packet kind src dst sum till], live := c.state.live ++ [true], back := c.state.back ++ [false] } }
def Chain.send (c : Chain) (kind src dst sum till : Int) : Chain := if c.sendB kind src dst sum till then c.sendD kind src dst sum till else c

def otherK (kind : Int) : Int := if kind = 2 then 1 else 2
def Chain.getB (c : Chain) (s : State) (p : Packet) : Bool := decide (3 ≤ c.state.way) && (s.hasB p && (decide (c.state.gotAt p.seq = 0) && (decide (p.ver = c.state.ver) && decide ((c.past.length : Int) + 1 < p.till))))
/-- Is a packet that came paid? -/
def payB (b : Bank) (p : Packet) : Bool := decide (p.dst ≠ 0) && b.backB (otherK p.kind) p.dst p.sum
def Chain.getD (c : Chain) (p : Packet) : Chain :=
  { c with bank := if payB c.bank p then c.bank.backD (otherK p.kind) p.dst p.sum else c.bank, state := { c.state with got := c.state.got.set (p.seq - 1).toNat (if payB c.bank p then 1 else 2) } }
def Chain.get (c : Chain) (s : State) (p : Packet) : Chain := if c.getB s p then c.getD p else c

def Chain.sentAt (c : Chain) (seq : Int) : Packet := c.state.sent.getD (seq - 1).toNat default
def Chain.mine (c : Chain) (seq : Int) : Bool := In seq 1 c.state.sent.length && c.state.live.getD (seq - 1).toNat false
def Bank.refund (b : Bank) (p : Packet) : Bank := b.back p.kind p.src p.sum
def Chain.settle (c : Chain) (seq : Int) (back : Bool) : Chain :=
  { c with bank := if back then c.bank.refund (c.sentAt seq) else c.bank, state := { c.state with live := c.state.live.set (seq - 1).toNat false, back := if back then c.state.back.set (seq - 1).toNat true else c.state.back } }
def Chain.tellB (c : Chain) (s : State) (seq : Int) : Bool := c.mine seq && decide (s.gotAt seq ≠ 0)
def Chain.tell (c : Chain) (s : State) (seq : Int) : Chain := if c.tellB s seq then c.settle seq (decide (s.gotAt seq = 2)) else c
def Chain.lateB (c : Chain) (s : State) (h seq : Int) : Bool := c.mine seq && (decide ((c.sentAt seq).till ≤ h) && decide (s.gotAt seq = 0))
def Chain.late (c : Chain) (s : State) (h seq : Int) : Chain := if c.lateB s h seq then c.settle seq true else c
def Chain.step (c : Chain) (s : State) (n : Int) : Chain := if wayMay c.state s n then { c with state := wayDo c.state s n } else c
def Chain.move (c : Chain) (kind src dst sum : Int) : Chain := if c.bank.moveB kind src dst sum then { c with bank := c.bank.moveD kind src dst sum } else c

def Chain.knowB (c o : Chain) (h : Int) : Bool := In h 1 o.past.length && !c.knows.contains h
def Chain.know (c o : Chain) (h : Int) : Chain := if c.knowB o h then { c with knows := c.knows.filter (fun x => decide (x < h)) ++ h :: c.knows.filter (fun x => decide (h < x)) } else c

def Chain.relayB (c o : Chain) (h : Int) : Bool := c.knows.contains h && decide (h ≤ o.past.length)
def Chain.at (o : Chain) (h : Int) : State := o.past.getD (h - 1).toNat default
def Chain.relay (c o : Chain) (e : Event) : Chain :=
  if c.relayB o e.height then
    if e.kind = 4 then (if e.packet.ok then c.get (o.at e.height) e.packet else c)
    else if e.kind = 5 then c.tell (o.at e.height) e.n
    else if e.kind = 6 then c.late (o.at e.height) e.height e.n
    else if e.kind = 7 then c.step (o.at e.height) e.n
    else c
  else c
def Chain.on (c o : Chain) (e : Event) : Chain :=
  if e.kind = 1 then c.block
  else if e.kind = 2 then c.know o e.height
  else if e.kind = 3 then c.send e.packet.kind e.packet.src e.packet.dst e.packet.sum e.packet.till
  else if e.kind = 8 then c.move e.packet.kind e.packet.src e.packet.dst e.packet.sum
  else if e.kind = 7 ∧ (e.n = 1 ∨ e.n = 5) then c.step State.new e.n
  else c.relay o e

/-- Two chains. -/
structure Two where
  a : Chain
  b : Chain
  deriving DecidableEq, Inhabited
def Two.list (w : Two) : List Chain := [w.a, w.b]
def Two.new : Two := ⟨Chain.new 1, Chain.new 2⟩
def Two.on (w : Two) (e : Event) : Two := if e.chain = 1 then { w with a := w.a.on w.b e } else if e.chain = 2 then { w with b := w.b.on w.a e } else w
def Two.play (w : Two) (es : List Event) : Two := es.foldl Two.on w
def Two.ok (w : Two) : Bool := wOk w.list
end Go.Hw
/- What is proved: how the plain data of the two chains lie in memory: as trees that nobody writes, and as rows that a call owns. -/
set_option linter.all false
namespace Go.Hw

/-- A number, a bool, as a cell. -/
abbrev ci (n : Int) : Cell := .t (.v (.int .i64 n))
abbrev cb (b : Bool) : Cell := .t (.v (.bool b))
abbrev I (n : Int) : A1 := .c (.t (.v (.int .i64 n)))
abbrev BB (b : Bool) : A1 := .c (.t (.v (.bool b)))
attribute [go_sem] ci cb I BB
def nixT : TV := .v (.bool false)

/-- Trees. -/
def tI (l : List Int) (i j : Nat) : TV := if j = 0 then .v (.int .i64 (l.getD i 0)) else nixT
def tB (l : List Bool) (i j : Nat) : TV := if j = 0 then .v (.bool (l.getD i false)) else nixT
def Packet.tv (p : Packet) : Nat → TV
  | 0 => .v (.int .i64 p.seq)
  | 1 => .v (.int .i64 p.kind)
  | 2 => .v (.int .i64 p.src)
  | 3 => .v (.int .i64 p.dst)
  | 4 => .v (.int .i64 p.sum)
  | 5 => .v (.int .i64 p.till)
  | 6 => .v (.int .i64 p.ver)
  | _ => nixT
def tP (l : List Packet) (i : Nat) : Nat → TV := (l.getD i default).tv
abbrev intsT (l : List Int) : TV := .sl 1 l.length (tI l)
abbrev boolsT (l : List Bool) : TV := .sl 1 l.length (tB l)
abbrev packetsT (l : List Packet) : TV := .sl 7 l.length (tP l)
def Bank.tv (b : Bank) : Nat → TV
  | 0 => intsT b.own
  | 1 => intsT b.notes
  | 2 => .v (.int .i64 b.locked)
  | _ => nixT
def State.tv (s : State) : Nat → TV
  | 0 => .v (.int .i64 s.way)
  | 1 => .v (.int .i64 s.ver)
  | 2 => .v (.int .i64 s.want)
  | 3 => packetsT s.sent
  | 4 => boolsT s.live
  | 5 => boolsT s.back
  | 6 => intsT s.got
  | _ => nixT
def tS (l : List State) (i : Nat) : Nat → TV := (l.getD i default).tv
abbrev statesT (l : List State) : TV := .sl 7 l.length (tS l)
def Chain.tv (c : Chain) : Nat → TV
  | 0 => .v (.int .i64 c.id)
  | 1 => intsT c.bank.own
  | 2 => intsT c.bank.notes
  | 3 => .v (.int .i64 c.bank.locked)
  | 4 => .v (.int .i64 c.state.way)
  | 5 => .v (.int .i64 c.state.ver)
  | 6 => .v (.int .i64 c.state.want)
  | 7 => packetsT c.state.sent
  | 8 => boolsT c.state.live
  | 9 => boolsT c.state.back
  | 10 => intsT c.state.got
  | 11 => statesT c.past
  | 12 => intsT c.knows
  | _ => nixT
def tC (l : List Chain) (i : Nat) : Nat → TV := (l.getD i default).tv
abbrev chainsT (l : List Chain) : TV := .sl 13 l.length (tC l)
def Event.tv (e : Event) : Nat → TV
  | 0 => .v (.int .i64 e.kind)
  | 1 => .v (.int .i64 e.chain)
  | 2 => .v (.int .i64 e.height)
  | 3 => .v (.int .i64 e.n)
  | 4 => .v (.int .i64 e.packet.seq)
  | 5 => .v (.int .i64 e.packet.kind)
  | 6 => .v (.int .i64 e.packet.src)
  | 7 => .v (.int .i64 e.packet.dst)
  | 8 => .v (.int .i64 e.packet.sum)
  | 9 => .v (.int .i64 e.packet.till)
  | 10 => .v (.int .i64 e.packet.ver)
  | _ => nixT
def tE (l : List Event) (i : Nat) : Nat → TV := (l.getD i default).tv
abbrev eventsT (l : List Event) : TV := .sl 11 l.length (tE l)

/-- Struct values whose parts are trees. -/
def Packet.av (p : Packet) : A1 := .g (tab 7 0 fun j => .t (p.tv j))
def Bank.av (b : Bank) : A1 := .g (tab 3 0 fun j => .t (b.tv j))
def State.av (s : State) : A1 := .g (tab 7 0 fun j => .t (s.tv j))
def Chain.av (c : Chain) : A1 := .g (tab 13 0 fun j => .t (c.tv j))
def Event.av (e : Event) : A1 := .g (tab 11 0 fun j => .t (e.tv j))
def Packet.box (p : Packet) : AObj := .box (tab 7 0 fun j => .t (p.tv j))
def Bank.box (b : Bank) : AObj := .box (tab 3 0 fun j => .t (b.tv j))
def State.box (s : State) : AObj := .box (tab 7 0 fun j => .t (s.tv j))
def Chain.box (c : Chain) : AObj := .box (tab 13 0 fun j => .t (c.tv j))
def Event.box (e : Event) : AObj := .box (tab 11 0 fun j => .t (e.tv j))
attribute [go_sem] Packet.box Bank.box State.box Chain.box Event.box Packet.tv Bank.tv State.tv Chain.tv Event.tv Packet.av Bank.av State.av Chain.av Event.av

/-- Rows of one's own. -/
def fI (l : List Int) (i j : Nat) : Cell := if j = 0 then ci (l.getD i 0) else nix
def fB (l : List Bool) (i j : Nat) : Cell := if j = 0 then cb (l.getD i false) else nix
def fP (l : List Packet) (i j : Nat) : Cell := .t ((l.getD i default).tv j)
def fS (l : List State) (i j : Nat) : Cell := .t ((l.getD i default).tv j)
def fE (l : List Event) (i j : Nat) : Cell := .t ((l.getD i default).tv j)
abbrev rI (l : List Int) : AObj := .row 1 l.length (fI l)
abbrev rB (l : List Bool) : AObj := .row 1 l.length (fB l)
abbrev rP (l : List Packet) : AObj := .row 7 l.length (fP l)
abbrev rS (l : List State) : AObj := .row 7 l.length (fS l)
abbrev rE (l : List Event) : AObj := .row 11 l.length (fE l)

section
variable {i j : Nat}
@[go_sem] theorem tI_zero (l : List Int) : tI l i 0 = .v (.int .i64 (l.getD i 0)) := rfl
@[go_sem] theorem tB_zero (l : List Bool) : tB l i 0 = .v (.bool (l.getD i false)) := rfl
@[go_sem] theorem fI_zero (l : List Int) : fI l i 0 = .t (.v (.int .i64 (l.getD i 0))) := rfl
@[go_sem] theorem fB_zero (l : List Bool) : fB l i 0 = .t (.v (.bool (l.getD i false))) := rfl
@[go_sem] theorem fP_ap (l : List Packet) : fP l i j = .t ((l.getD i default).tv j) := rfl
@[go_sem] theorem fS_ap (l : List State) : fS l i j = .t ((l.getD i default).tv j) := rfl
@[go_sem] theorem fE_ap (l : List Event) : fE l i j = .t ((l.getD i default).tv j) := rfl
theorem t_tI (l : List Int) : Cell.t (tI l i j) = fI l i j := by unfold tI fI; split <;> rfl
theorem t_tB (l : List Bool) : Cell.t (tB l i j) = fB l i j := by unfold tB fB; split <;> rfl
theorem t_tP (l : List Packet) : Cell.t (tP l i j) = fP l i j := rfl
theorem t_tS (l : List State) : Cell.t (tS l i j) = fS l i j := rfl
theorem t_tE (l : List Event) : Cell.t (tE l i j) = fE l i j := rfl
end
@[go_sem] theorem row_tI (l : List Int) : liftT (tI l) = fI l := by funext i j; exact t_tI l
@[go_sem] theorem row_tB (l : List Bool) : liftT (tB l) = fB l := by funext i j; exact t_tB l
@[go_sem] theorem row_tP (l : List Packet) : liftT (tP l) = fP l := rfl
@[go_sem] theorem row_tS (l : List State) : liftT (tS l) = fS l := rfl
@[go_sem] theorem row_tE (l : List Event) : liftT (tE l) = fE l := rfl
@[go_sem] theorem ren_fI {g : Nat → Nat} (l : List Int) : renF g (fI l) = fI l := by funext i j; unfold renF fI; split <;> rfl
@[go_sem] theorem ren_fB {g : Nat → Nat} (l : List Bool) : renF g (fB l) = fB l := by funext i j; unfold renF fB; split <;> rfl
@[go_sem] theorem ren_fP {g : Nat → Nat} (l : List Packet) : renF g (fP l) = fP l := rfl
@[go_sem] theorem ren_fS {g : Nat → Nat} (l : List State) : renF g (fS l) = fS l := rfl
@[go_sem] theorem ren_fE {g : Nat → Nat} (l : List Event) : renF g (fE l) = fE l := rfl
@[go_sem] theorem ren_rowOf {g : Nat → Nat} (wd : Nat) (l : List Cell) : renF g (rowOf wd l) = rowOf wd (l.map (Cell.ren g)) := by
  funext i j
  unfold renF rowOf
  by_cases h : j < wd
  · rw [if_pos h, if_pos h]
    by_cases h2 : i * wd + j < l.length
    · rw [if_pos h2, if_pos (by simpa using h2)]
      simp [List.getD, h2]
    · rw [if_neg h2, if_neg (by simpa using h2)]
      by_cases h3 : j < l.length
      · simp only [List.getD, List.getElem?_map, List.getElem?_eq_getElem h3, Option.map_some, Option.getD_some]
        generalize l[j] = c
        rcases c with (x | _ | _) | _ | _ | _ | _ | _ | _ <;> first | rfl | (cases x <;> rfl)
      · simp only [List.getD, List.getElem?_map, List.getElem?_eq_none (Nat.le_of_not_lt h3), Option.map_none, Option.getD_none]; rfl
  · rw [if_neg h, if_neg h]; rfl

/-- Appended. -/
theorem app_get {n : Nat} {f g : Nat → Nat → Cell} {i j : Nat} : app n f g i j = if i < n then f i j else g (i - n) j := rfl
@[go_sem] theorem app_zero {f g : Nat → Nat → Cell} : app 0 f g = g := by funext i j; simp [app]
@[go_sem] theorem app_fI (l m : List Int) : app l.length (fI l) (fI m) = fI (l ++ m) := by
  funext i j; unfold app fI
  by_cases h : i < l.length
  · simp [h, List.getD, List.getElem?_append]
  · simp [h, List.getD, List.getElem?_append]
@[go_sem] theorem app_fB (l m : List Bool) : app l.length (fB l) (fB m) = fB (l ++ m) := by
  funext i j; unfold app fB
  by_cases h : i < l.length
  · simp [h, List.getD, List.getElem?_append]
  · simp [h, List.getD, List.getElem?_append]
@[go_sem] theorem app_fP (l m : List Packet) : app l.length (fP l) (fP m) = fP (l ++ m) := by
  funext i j; unfold app fP
  by_cases h : i < l.length
  · simp [h, List.getD, List.getElem?_append]
  · simp [h, List.getD, List.getElem?_append]
@[go_sem] theorem app_fS (l m : List State) : app l.length (fS l) (fS m) = fS (l ++ m) := by
  funext i j; unfold app fS
  by_cases h : i < l.length
  · simp [h, List.getD, List.getElem?_append]
  · simp [h, List.getD, List.getElem?_append]
@[go_sem] theorem app_fE (l m : List Event) : app l.length (fE l) (fE m) = fE (l ++ m) := by
  funext i j; unfold app fE
  by_cases h : i < l.length
  · simp [h, List.getD, List.getElem?_append]
  · simp [h, List.getD, List.getElem?_append]
@[go_sem] theorem app_fI_of {n : Nat} {l m : List Int} (h : (n == l.length) = true) : app n (fI l) (fI m) = fI (l ++ m) := by
  have h : n = l.length := by simpa using h
  subst h; exact app_fI l m
@[go_sem] theorem app_fB_of {n : Nat} {l m : List Bool} (h : (n == l.length) = true) : app n (fB l) (fB m) = fB (l ++ m) := by
  have h : n = l.length := by simpa using h
  subst h; exact app_fB l m
@[go_sem] theorem app_fP_of {n : Nat} {l m : List Packet} (h : (n == l.length) = true) : app n (fP l) (fP m) = fP (l ++ m) := by
  have h : n = l.length := by simpa using h
  subst h; exact app_fP l m
@[go_sem] theorem app_fS_of {n : Nat} {l m : List State} (h : (n == l.length) = true) : app n (fS l) (fS m) = fS (l ++ m) := by
  have h : n = l.length := by simpa using h
  subst h; exact app_fS l m
@[go_sem] theorem app_fE_of {n : Nat} {l m : List Event} (h : (n == l.length) = true) : app n (fE l) (fE m) = fE (l ++ m) := by
  have h : n = l.length := by simpa using h
  subst h; exact app_fE l m
/-- Written over. -/
theorem rowSet_fI {l : List Int} {i : Nat} {v : Int} (h : i < l.length) : rowSet (fI l) i 0 [.t (.v (.int .i64 v))] = fI (l.set i v) := by
  funext i' j'; unfold rowSet fI
  by_cases e : i' = i
  · subst e
    by_cases ej : j' = 0
    · subst ej; simp [h, List.getD]
    · have : ¬ (j' < 1) := by omega
      simp [ej, this]
  · have : ¬ i = i' := fun h => e h.symm
    simp [e, this, List.getD, List.getElem?_set]
theorem rowSet_fB {l : List Bool} {i : Nat} {v : Bool} (h : i < l.length) : rowSet (fB l) i 0 [.t (.v (.bool v))] = fB (l.set i v) := by
  funext i' j'; unfold rowSet fB
  by_cases e : i' = i
  · subst e
    by_cases ej : j' = 0
    · subst ej; simp [h, List.getD]
    · have : ¬ (j' < 1) := by omega
      simp [ej, this]
  · have : ¬ i = i' := fun h => e h.symm
    simp [e, this, List.getD, List.getElem?_set]
theorem rowSet_fI2 {l : List Int} {i k : Nat} {u v : Int} (h : i < l.length) : rowSet (fI (l.set k u)) i 0 [.t (.v (.int .i64 v))] = fI ((l.set k u).set i v) := rowSet_fI (by rw [List.length_set]; exact h)
/-- Literals. -/
@[go_sem] theorem rowOf_I1 (a : Int) : rowOf 1 [.t (.v (.int .i64 a))] = fI [a] := by
  funext i j; unfold rowOf fI
  rcases j with _ | j
  · rcases i with _ | i <;> simp [dfl, List.getD]
  · simp
@[go_sem] theorem rowOf_I2 (a b : Int) : rowOf 1 [.t (.v (.int .i64 a)), .t (.v (.int .i64 b))] = fI [a, b] := by
  funext i j; unfold rowOf fI
  rcases j with _ | j
  · rcases i with _ | _ | i <;> simp [dfl, List.getD] <;> omega
  · simp
@[go_sem] theorem rowOf_I3 (a b c : Int) : rowOf 1 [.t (.v (.int .i64 a)), .t (.v (.int .i64 b)), .t (.v (.int .i64 c))] = fI [a, b, c] := by
  funext i j; unfold rowOf fI
  rcases j with _ | j
  · rcases i with _ | _ | _ | i <;> simp [dfl, List.getD] <;> omega
  · simp
@[go_sem] theorem rowOf_B1 (a : Bool) : rowOf 1 [.t (.v (.bool a))] = fB [a] := by
  funext i j; unfold rowOf fB
  rcases j with _ | j
  · rcases i with _ | i <;> simp [dfl, List.getD, nix]
  · simp
theorem rowOf_P1 (p : Packet) : rowOf 7 (tab 7 0 fun j => .t (p.tv j)) = fP [p] := by
  funext i j; unfold rowOf fP
  by_cases h : j < 7
  · rcases i with _ | i
    · have h1 : j < (tab 7 0 fun j => Cell.t (p.tv j)).length := by rw [tab_length]; exact h
      have : (tab 7 0 fun j => Cell.t (p.tv j)).getD j nix = .t (p.tv j) := by
        match j, h with
        | 0, _ => rfl
        | 1, _ => rfl
        | 2, _ => rfl
        | 3, _ => rfl
        | 4, _ => rfl
        | 5, _ => rfl
        | 6, _ => rfl
      simp only [Nat.zero_mul, Nat.zero_add, h, h1, if_true, this]; rfl
    · have h1 : ¬ ((i + 1) * 7 + j < (tab 7 0 fun j => Cell.t (p.tv j)).length) := by rw [tab_length]; omega
      simp only [h, h1, if_true, if_false]
      match j, h with
      | 0, _ => rfl
      | 1, _ => rfl
      | 2, _ => rfl
      | 3, _ => rfl
      | 4, _ => rfl
      | 5, _ => rfl
      | 6, _ => rfl
  · simp only [h, if_false]
    match j, h with
    | j + 7, _ => rfl
theorem rowOf_E1 (p : Event) : rowOf 11 (tab 11 0 fun j => .t (p.tv j)) = fE [p] := by
  funext i j; unfold rowOf fE
  by_cases h : j < 11
  · rcases i with _ | i
    · have h1 : j < (tab 11 0 fun j => Cell.t (p.tv j)).length := by rw [tab_length]; exact h
      have : (tab 11 0 fun j => Cell.t (p.tv j)).getD j nix = .t (p.tv j) := by
        match j, h with
        | 0, _ => rfl
        | 1, _ => rfl
        | 2, _ => rfl
        | 3, _ => rfl
        | 4, _ => rfl
        | 5, _ => rfl
        | 6, _ => rfl
        | 7, _ => rfl
        | 8, _ => rfl
        | 9, _ => rfl
        | 10, _ => rfl
      simp only [Nat.zero_mul, Nat.zero_add, h, h1, if_true, this]; rfl
    · have h1 : ¬ ((i + 1) * 11 + j < (tab 11 0 fun j => Cell.t (p.tv j)).length) := by rw [tab_length]; omega
      simp only [h, h1, if_true, if_false]
      match j, h with
      | 0, _ => rfl
      | 1, _ => rfl
      | 2, _ => rfl
      | 3, _ => rfl
      | 4, _ => rfl
      | 5, _ => rfl
      | 6, _ => rfl
      | 7, _ => rfl
      | 8, _ => rfl
      | 9, _ => rfl
      | 10, _ => rfl
  · simp only [h, if_false]
    match j, h with
    | j + 11, _ => rfl
@[go_sem] theorem rowOf_P (a b c d e f g : Int) : rowOf 7 [.t (.v (.int .i64 a)), .t (.v (.int .i64 b)), .t (.v (.int .i64 c)), .t (.v (.int .i64 d)), .t (.v (.int .i64 e)), .t (.v (.int .i64 f)), .t (.v (.int .i64 g))] = fP [⟨a, b, c, d, e, f, g⟩] := rowOf_P1 ⟨a, b, c, d, e, f, g⟩
@[go_sem] theorem rowOf_E (a b c d e f g h i j k : Int) : rowOf 11 [.t (.v (.int .i64 a)), .t (.v (.int .i64 b)), .t (.v (.int .i64 c)), .t (.v (.int .i64 d)), .t (.v (.int .i64 e)), .t (.v (.int .i64 f)), .t (.v (.int .i64 g)), .t (.v (.int .i64 h)), .t (.v (.int .i64 i)), .t (.v (.int .i64 j)), .t (.v (.int .i64 k))] = fE [⟨a, b, c, d, ⟨e, f, g, h, i, j, k⟩⟩] := rowOf_E1 ⟨a, b, c, d, ⟨e, f, g, h, i, j, k⟩⟩
/-- Made. -/
@[go_sem] theorem make_I (n : Nat) : AObj.row 1 n (mkF [.t (.v (.int .i64 0))]) = .row 1 n (fI (List.replicate n 0)) := by
  congr 1
  funext i j; unfold mkF fI
  rcases j with _ | j
  · simp only [List.getD, List.getElem?_cons_zero, Option.getD_some, if_true, List.getElem?_replicate]; split <;> rfl
  · simp [nix]

/-! A row reads as itself. -/
section
variable {H : Heap} {fz : Nat → Prop} {τ : List (Nat × Nat)} {N wd n : Nat}
theorem rle_liftT {f : Nat → Nat → TV} : rle H fz τ N wd n (liftT f) (liftT f) = True := by simp [rle, liftT, cle_t, tof_t, tle_refl]
@[go_sem] theorem rle_fI (l : List Int) : rle H fz τ N wd n (fI l) (fI l) = True := by rw [← row_tI]; exact rle_liftT
@[go_sem] theorem rle_fB (l : List Bool) : rle H fz τ N wd n (fB l) (fB l) = True := by rw [← row_tB]; exact rle_liftT
@[go_sem] theorem rle_fP (l : List Packet) : rle H fz τ N wd n (fP l) (fP l) = True := by rw [← row_tP]; exact rle_liftT
@[go_sem] theorem rle_fS (l : List State) : rle H fz τ N wd n (fS l) (fS l) = True := by rw [← row_tS]; exact rle_liftT
@[go_sem] theorem rle_fE (l : List Event) : rle H fz τ N wd n (fE l) (fE l) = True := by rw [← row_tE]; exact rle_liftT
/-- A row that is given away reads as a tree. -/
theorem tlr_liftT {f : Nat → Nat → TV} {m k : Nat} : tlr H fz k wd 0 m (liftT f) f = True := by simp [tlr, liftT, tof_t, tle_refl]
@[go_sem] theorem tlr_fI (l : List Int) {m k : Nat} : tlr H fz k wd 0 m (fI l) (tI l) = True := by rw [← row_tI]; exact tlr_liftT
@[go_sem] theorem tlr_fB (l : List Bool) {m k : Nat} : tlr H fz k wd 0 m (fB l) (tB l) = True := by rw [← row_tB]; exact tlr_liftT
@[go_sem] theorem tlr_fP (l : List Packet) {m k : Nat} : tlr H fz k wd 0 m (fP l) (tP l) = True := by rw [← row_tP]; exact tlr_liftT
@[go_sem] theorem tlr_fS (l : List State) {m k : Nat} : tlr H fz k wd 0 m (fS l) (tS l) = True := by rw [← row_tS]; exact tlr_liftT
@[go_sem] theorem tlr_fE (l : List Event) {m k : Nat} : tlr H fz k wd 0 m (fE l) (tE l) = True := by rw [← row_tE]; exact tlr_liftT
end
theorem tP_eq (l : List Packet) (i j : Nat) : tP l i j = (l.getD i default).tv j := rfl
theorem tS_eq (l : List State) (i j : Nat) : tS l i j = (l.getD i default).tv j := rfl
theorem tC_eq (l : List Chain) (i j : Nat) : tC l i j = (l.getD i default).tv j := rfl
theorem tE_eq (l : List Event) (i j : Nat) : tE l i j = (l.getD i default).tv j := rfl
attribute [go_sem] tP_eq tS_eq tC_eq tE_eq
@[go_sem] theorem getD_zero_cons {α : Type} (x : α) (l : List α) (d : α) : (x :: l).getD 0 d = x := rfl

/-- Rows of numbers hold no tree. -/
theorem flat_fI (l : List Int) (i j : Nat) : (fI l i j).flat = True := by unfold fI; split <;> simp [Cell.flat, nix]
theorem flat_fB (l : List Bool) (i j : Nat) : (fB l i j).flat = True := by unfold fB; split <;> simp [Cell.flat, nix]
theorem flat_tv {p : Packet} : ∀ j, (Cell.t (p.tv j)).flat
  | 0 => trivial
  | 1 => trivial
  | 2 => trivial
  | 3 => trivial
  | 4 => trivial
  | 5 => trivial
  | 6 => trivial
  | _ + 7 => trivial
theorem flat_fP (l : List Packet) (i j : Nat) : (fP l i j).flat = True := eq_true (flat_tv j)
theorem flat_etv {p : Event} : ∀ j, (Cell.t (p.tv j)).flat
  | 0 => trivial
  | 1 => trivial
  | 2 => trivial
  | 3 => trivial
  | 4 => trivial
  | 5 => trivial
  | 6 => trivial
  | 7 => trivial
  | 8 => trivial
  | 9 => trivial
  | 10 => trivial
  | _ + 11 => trivial
theorem flat_fE (l : List Event) (i j : Nat) : (fE l i j).flat = True := eq_true (flat_etv j)
@[go_sem] theorem rflat_fI (l : List Int) {wd n : Nat} : rflat wd n (fI l) = True := by simp [rflat, flat_fI]
@[go_sem] theorem rflat_fB (l : List Bool) {wd n : Nat} : rflat wd n (fB l) = True := by simp [rflat, flat_fB]
@[go_sem] theorem rflat_fP (l : List Packet) {wd n : Nat} : rflat wd n (fP l) = True := by simp [rflat, flat_fP]
@[go_sem] theorem rflat_fE (l : List Event) {wd n : Nat} : rflat wd n (fE l) = True := by simp [rflat, flat_fE]
attribute [go_sem] Option.some.injEq exists_eq' exists_eq_left exists_eq_left' List.length_append List.length_set List.length_cons List.length_nil List.length_replicate

/-! A chain of one's own: its rows under the handles from h on. -/
def bankA (b : Bank) (h : Nat) : List Cell := [.sl h 1 0 b.own.length, .sl (h + 1) 1 0 b.notes.length, .t (.v (.int .i64 b.locked))]
def bankH (b : Bank) (h : Nat) : Heap := [(h, rI b.own), (h + 1, rI b.notes)]
def stateA (s : State) (h : Nat) : List Cell := [.t (.v (.int .i64 s.way)), .t (.v (.int .i64 s.ver)), .t (.v (.int .i64 s.want)), .sl h 7 0 s.sent.length, .sl (h + 1) 1 0 s.live.length, .sl (h + 2) 1 0 s.back.length, .sl (h + 3) 1 0 s.got.length]
def stateH (s : State) (h : Nat) : Heap := [(h, rP s.sent), (h + 1, rB s.live), (h + 2, rB s.back), (h + 3, rI s.got)]
def chainA (c : Chain) (h : Nat) : List Cell := .t (.v (.int .i64 c.id)) :: (bankA c.bank h ++ (stateA c.state (h + 2) ++ [.sl (h + 6) 7 0 c.past.length, .sl (h + 7) 1 0 c.knows.length]))
def chainH (c : Chain) (h : Nat) : Heap := bankH c.bank h ++ (stateH c.state (h + 2) ++ [(h + 6, rS c.past), (h + 7, rI c.knows)])
/-- Two chains. -/
def worldA (h : Nat) : List Cell := [.sl h 13 0 2]
def worldH (w : Two) (h : Nat) : Heap := (h, .box (chainA w.a (h + 1) ++ chainA w.b (h + 9))) :: (chainH w.a (h + 1) ++ chainH w.b (h + 9))
attribute [go_sem] bankA bankH stateA stateH chainA chainH worldA worldH
end Go.Hw
