/- What is proved here: parts W50, W53 of the walk of the law and of its plain side; no condition but those that each theorem states. -/
import Derived.Test.YtcbceacjhmblnaaGreatE1
import Derived.Ground.Names2Prog
import Derived.Shelf.Slices.SearchI
import Derived.Shelf.Slices.Empties
import Derived.Shelf.Spec.SlicesInsert
import Derived.Shelf.Spec.SlicesInsertGrow
import Derived.Below
/- What is proved: how the library's insertion into, and search in, a row of numbers go. -/
set_option linter.all false
set_option maxRecDepth 100000
set_option maxHeartbeats 4000000
namespace Go.Proofs
open Go.Shelf
def Tryz.laysNm225_ren : Go.Shelf.Ren := ⟨fun | 25 => 82 | 31 => 112 | 32 => 113 | 37 => 146 | n => n, fun | 22 => 32 | 3 => 3 | 4 => 4 | 40 => 157 | 0 => 0 | n => n, fun | n => n⟩
theorem Tryz.laysNm225 : Go.Proofs.Lays2.n25 Tryz.prog Tryz.laysNm225_ren := {
  mixed := by kernel_rfl
  f25 := Tryz.func82.trans (congrArg some (by kernel_rfl))
  f31 := Tryz.func112.trans (congrArg some (by kernel_rfl))
  f32 := Tryz.func113.trans (congrArg some (by kernel_rfl))
  f37 := Tryz.func146.trans (congrArg some (by kernel_rfl))
  t0 := Tryz.underlying0
  a0 := Tryz.isAgg0
  z0 := Tryz.sizeOf0
  v0 := Tryz.zeroValue0
  t3 := Tryz.underlying3
  a3 := Tryz.isAgg3
  z3 := Tryz.sizeOf3
  v3 := Tryz.zeroValue3
  t4 := Tryz.underlying4
  a4 := Tryz.isAgg4
  z4 := Tryz.sizeOf4
  v4 := Tryz.zeroValue4
  t22 := Tryz.underlying32
  a22 := Tryz.isAgg32
  z22 := Tryz.sizeOf32
  v22 := Tryz.zeroValue32
  t40 := Tryz.underlying157
  a40 := Tryz.isAgg157
  z40 := Tryz.sizeOf157
  v40 := Tryz.zeroValue157 }
def Tryz.laysNm221_ren : Go.Shelf.Ren := ⟨fun | 21 => 83 | 27 => 114 | 28 => 115 | 35 => 147 | 39 => 154 | n => n, fun | 22 => 32 | 3 => 3 | 4 => 4 | 0 => 0 | n => n, fun | n => n⟩
theorem Tryz.laysNm221 : Go.Proofs.Lays2.n21 Tryz.prog Tryz.laysNm221_ren := {
  mixed := by kernel_rfl
  f21 := Tryz.func83.trans (congrArg some (by kernel_rfl))
  f27 := Tryz.func114.trans (congrArg some (by kernel_rfl))
  f28 := Tryz.func115.trans (congrArg some (by kernel_rfl))
  f35 := Tryz.func147.trans (congrArg some (by kernel_rfl))
  f39 := Tryz.func154.trans (congrArg some (by kernel_rfl))
  t0 := Tryz.underlying0
  a0 := Tryz.isAgg0
  z0 := Tryz.sizeOf0
  v0 := Tryz.zeroValue0
  t3 := Tryz.underlying3
  a3 := Tryz.isAgg3
  z3 := Tryz.sizeOf3
  v3 := Tryz.zeroValue3
  t4 := Tryz.underlying4
  a4 := Tryz.isAgg4
  z4 := Tryz.sizeOf4
  v4 := Tryz.zeroValue4
  t22 := Tryz.underlying32
  a22 := Tryz.isAgg32
  z22 := Tryz.sizeOf32
  v22 := Tryz.zeroValue32
  i3 := by kernel_rfl }
end Go.Proofs
namespace Go.Hw
open Go.Proofs Go.RowKit
/-- Cells stored one behind the other into a block. -/
theorem setCells_get {b : Nat} {e : TypeId} {fr : Nat × Nat} : ∀ (vs : List Value) (o : Nat) (w : World) (cs : Array Value), w.heap[b]? = some (.cells cs e fr) →
    ∃ cs', (w.setCells b o vs).heap[b]? = some (.cells cs' e fr) ∧ cs'.size = cs.size ∧ (∀ k, k < o ∨ o + vs.length ≤ k → cs'[k]? = cs[k]?) ∧ (∀ j, j < vs.length → o + j < cs.size → cs'[o + j]? = vs[j]?) ∧
      (∀ k, k ≠ b → (w.setCells b o vs).heap[k]? = w.heap[k]?) ∧ (w.setCells b o vs).heap.size = w.heap.size ∧ (w.setCells b o vs).os = w.os ∧ (w.setCells b o vs).tape = w.tape ∧ (w.setCells b o vs).output = w.output
  | [], o, w, cs, h => ⟨cs, h, rfl, fun _ _ => rfl, fun j hj => absurd hj (Nat.not_lt_zero j), fun _ _ => rfl, rfl, rfl, rfl, rfl⟩
  | v :: r, o, w, cs, h => by
    have h1 : (w.setCell ⟨b, o, none⟩ v).heap[b]? = some (.cells (cs.setIfInBounds o v) e fr) := by
      simp [World.setCell, Array.getElem?_modify, h]
    obtain ⟨cs', g1, g2, g3, g4, g5, g6, g7, g8, g9⟩ := setCells_get r (o + 1) _ _ h1
    refine ⟨cs', g1, by simpa using g2, fun k hk => ?_, fun j hj hlt => ?_, fun k hk => ?_, ?_, g7, g8, g9⟩
    · rw [g3 k (by simp only [List.length_cons] at hk; omega), Array.getElem?_setIfInBounds]
      rw [if_neg (by simp only [List.length_cons] at hk; omega)]
    · cases j with
      | zero =>
        rw [Nat.add_zero, g3 o (by omega), Array.getElem?_setIfInBounds]
        simp at hlt
        simp [hlt]
      | succ j =>
        have := g4 j (by simpa using hj) (by simp; omega)
        rw [show o + (j + 1) = o + 1 + j by omega]
        simpa using this
    · rw [World.setCells, g5 k hk]
      exact Below.heap_setCell _ _ _ _ hk
    · rw [World.setCells, g6]; simp [World.setCell]
theorem ints_get {l : List Int} {j : Nat} (h : j < l.length) : (l.map (Value.int .i64))[j]? = some (.int .i64 (l.getD j 0)) := by
  simp [List.getD, h]
/-- The end of an insertion, wherever the new row lies. -/
theorem ins_fin {w w' : World} {A : Nat → Prop} {ρ : Rho} {l : List Int} {x : Int} {i : Nat} (hA : ∀ b, A b → b < w.heap.size) (hn : ∀ h, 2 ≤ h → ρ h = none) (hH : HeapAt w A ρ [(0, rI l), (1, rI [x])]) {b2 cap2 : Nat} {cs2 : Array Value} {e2 : TypeId} {e : Ending}
    (he : e = .returned (.slice (some ⟨b2, 0, none⟩) (l.length + 1) cap2)) (hb2 : w'.heap[b2]? = some (.cells cs2 e2 (0, 0))) (hc1 : l.length + 1 ≤ cap2) (hc2 : cap2 ≤ cs2.size) (hcM : cap2 ≤ 9223372036854775807)
    (hcs : ∀ j, j < l.length + 1 → cs2[j]? = some (.int .i64 ((l.take i ++ x :: l.drop i).getD j 0))) (hlen : i ≤ l.length) (hwh : (l.length ≠ 0 ∧ ∃ m, ρ 0 = some (b2, m)) ∨ w.heap.size ≤ b2)
    (hold : ∀ k, k < w.heap.size → ¬ blkOf ρ [(0, rI l), (1, rI [x])] k → w'.heap[k]? = w.heap[k]?) (hsz : w.heap.size ≤ w'.heap.size) (hos : w'.os = w.os) (htp : w'.tape = w.tape) (hou : w'.output = w.output) :
    ∃ (_ : Unit) (v : Value) (A' : Nat → Prop) (ρ' : Rho), True ∧ e = .returned v ∧ (AV.o (.c (.sl 2 1 0 (l.length + 1)))).At w' A' ρ' v ∧ HeapAt w' A' ρ' [(2, rI (l.take i ++ x :: l.drop i))] ∧ w'.os = w.os ∧ w'.tape = w.tape ∧ w'.output = w.output ∧ w.heap.size ≤ w'.heap.size ∧
      (∀ b, b < w.heap.size → ¬ blkOf ρ [(0, rI l), (1, rI [x])] b → w'.heap[b]? = w.heap[b]?) ∧
      (∀ b, A' b → b < w'.heap.size ∧ (A b ∨ blkOf ρ [(0, rI l), (1, rI [x])] b ∨ w.heap.size ≤ b)) ∧
      (∀ y ∈ ([(2, rI (l.take i ++ x :: l.drop i))] : Heap), y.2.real → ∀ b m, ρ' y.1 = some (b, m) → blkOf ρ [(0, rI l), (1, rI [x])] b ∨ w.heap.size ≤ b) ∧
      (∀ h, h < 2 → ρ' h = ρ h) ∧ (∀ h, 3 ≤ h → ρ' h = none) := by
  have hl2 : (l.take i ++ x :: l.drop i).length = l.length + 1 := by simp; omega
  have hb2A : ¬ A b2 := by
    rcases hwh with ⟨h0, m, hm⟩ | h
    · obtain ⟨b, m', h1, _, h3, _⟩ := hH.objs (0, rI l) (by simp) h0
      rw [hm] at h1; injection h1 with h1; injection h1 with h1 _; subst h1; exact h3
    · intro ha; have := hA _ ha; omega
  have hlt : b2 < w'.heap.size := (Array.getElem?_eq_some_iff.1 hb2).1
  refine ⟨(), _, A, ext ρ 2 (b2, cs2.size), trivial, he, ?_, ⟨?_, by simp⟩, hos, htp, hou, hsz, hold, fun b hb => ⟨Nat.lt_of_lt_of_le (hA b hb) hsz, .inl hb⟩, ?_, fun h hh => ext_ne (by omega), fun h hh => by rw [ext_ne (by omega)]; exact hn h (by omega)⟩
  · refine .inr ⟨by omega, b2, cs2.size, cap2, ext_self, by rw [Nat.zero_mul], ⟨hc1, hcM⟩, by omega⟩
  · intro y hy _
    have : y = (2, rI (l.take i ++ x :: l.drop i)) := by simpa using hy
    subst this
    refine ⟨b2, cs2.size, ext_self, ⟨cs2, e2, hb2, rfl, by rw [hl2]; omega, fun k hk j hj => ?_⟩, hb2A, hlt⟩
    have : j = 0 := by omega
    subst this
    rw [hl2] at hk
    exact ⟨_, by rw [Nat.mul_one, Nat.add_zero]; exact hcs k hk, rfl, rfl⟩
  · intro y hy _ b m hbm
    have : y = (2, rI (l.take i ++ x :: l.drop i)) := by simpa using hy
    subst this
    rw [ext_self] at hbm; injection hbm with hbm; injection hbm with h1 _; subst h1
    rcases hwh with ⟨h0, m, hm⟩ | h
    · exact .inl ⟨(0, rI l), by simp, h0, m, hm⟩
    · exact .inr h
end Go.Hw
/- What is proved: contracts of the library's insertion into, and search in, a row of numbers. -/
set_option linter.all false
set_option maxRecDepth 100000
set_option maxHeartbeats 4000000
namespace Go.Hw
open Go.Proofs Go.RowKit
theorem all2_3 {α β : Type} {R : α → β → Prop} {a b c : α} : ∀ {l : List β}, All2 R [a, b, c] l → ∃ x y z, l = [x, y, z] ∧ R a x ∧ R b y ∧ R c z
  | [], h => h.elim
  | [_], h => h.2.elim
  | [_, _], h => h.2.2.elim
  | [x, y, z], h => ⟨x, y, z, rfl, h.1, h.2.1, h.2.2.1⟩
  | _ :: _ :: _ :: _ :: _, h => h.2.2.2.elim
theorem all2_2 {α β : Type} {R : α → β → Prop} {a b : α} : ∀ {l : List β}, All2 R [a, b] l → ∃ x y, l = [x, y] ∧ R a x ∧ R b y
  | [], h => h.elim
  | [_], h => h.2.elim
  | [x, y], h => ⟨x, y, rfl, h.1, h.2.1⟩
  | _ :: _ :: _ :: _, h => h.2.2.elim
theorem alloc_get (w : World) (o : Obj) : (w.drew.alloc o).heap[w.heap.size]? = some o := by
  show (w.heap.push o)[w.heap.size]? = _
  simp
theorem alloc_get2 (w : World) (o : Obj) : ((w.alloc o).drew).heap[w.heap.size]? = some o := by
  show (w.heap.push o)[w.heap.size]? = _
  simp
theorem zc_size (k : Nat) : (Builtin.zeroCells (Value.int .i64 0).cells k).size = k := by
  simp [Builtin.zeroCells, Value.cells]
theorem one_int (n : Int) : (Value.int .i64 n).oneCell' = true := rfl
theorem new_get {l : List Int} {x : Int} {i j : Nat} (hi : i ≤ l.length) : (l.take i ++ x :: l.drop i).getD j 0 = if j < i then l.getD j 0 else if j = i then x else l.getD (j - 1) 0 := by
  simp only [List.getD, List.getElem?_append, List.length_take, List.getElem?_take]
  by_cases h : j < i
  · rw [if_pos (by omega), if_pos h, if_pos h]
  · rw [if_neg (by omega), if_neg h]
    by_cases h2 : j = i
    · subst h2; rw [if_pos rfl]; simp [Nat.min_eq_left hi]
    · rw [if_neg h2]
      obtain ⟨d, hd⟩ : ∃ d, j - min i l.length = d + 1 := ⟨j - i - 1, by omega⟩
      rw [hd, List.getElem?_cons_succ, List.getElem?_drop]
      congr 2; omega
theorem fnOk_insert : FnOk Tryz.prog 83 := ⟨_, Tryz.func83, by kernel_rfl, by kernel_rfl⟩
theorem fnOk_search : FnOk Tryz.prog 82 := ⟨_, Tryz.func82, by kernel_rfl, by kernel_rfl⟩
theorem Insert_ok (l : List Int) (x : Int) (i : Nat) (hi : i ≤ l.length) (hl : l.length ≤ 1000) :
    Call Tryz.prog 83 [.c (.sl 0 1 0 l.length), I i, .c (.sl 1 1 0 1)] [(0, rI l), (1, rI [x])] 2 (.o (.c (.sl 2 1 0 (l.length + 1)))) [(2, rI (l.take i ++ x :: l.drop i))] 3 := by
  refine ⟨fnOk_insert, by omega, fun w A ρ vs ha hH hA hn => ?_⟩
  obtain ⟨vl⟩ := vs
  obtain ⟨v0, v1, v2, rfl, h0, h1, h2⟩ := all2_3 ha
  obtain ⟨rfl, _⟩ := h1
  rcases h2 with ⟨h2, _⟩ | ⟨_, vb, vm, vc, hkv, rfl, ⟨hv1, hv2⟩, hv3⟩
  · cases h2
  obtain ⟨vb', vm', hkv', ⟨vcs, ve, hvh, hvs, _, hva⟩, hvA, hvlt⟩ := hH.objs (1, rI [x]) (by simp) (by show ([x] : List Int).length ≠ 0; simp)
  rw [hkv] at hkv'; injection hkv' with hkv'; injection hkv' with e1 e2; subst e1; subst e2
  obtain ⟨z, hz1, hz2⟩ := hva 0 (by simp) 0 (by omega)
  obtain ⟨rfl, _⟩ := hz2
  rw [Nat.zero_mul]
  have hvcell : ∀ j v, ([Value.int .i64 x] : List Value)[j]? = some v → w.cell? ⟨vb, 0 + j, none⟩ = some v := by
    intro j v hj
    cases j with
    | zero =>
      simp at hj; subst hj
      rw [cell_of_cells hvh]; simpa using hz1
    | succ j => simp at hj
  have h1v : ∀ v ∈ ([Value.int .i64 x] : List Value), v.oneCell' = true := by
    intro v hv; simp at hv; subst hv; exact one_int _
  have grow : ∀ (base : Option Addr) (c : Nat), (base = none → l.length = 0) → i = l.length → l.length ≤ c → c < l.length + 1 → (∀ a, base = some a → ∀ j v, (l.map (Value.int .i64))[j]? = some v → w.cell? (a.add j) = some v) →
      Calls Tryz.prog 83 #[.slice base l.length c, .int .i64 (i : Nat), .slice (some ⟨vb, 0, none⟩) 1 vc] w fun e w' => ∃ (_ : Unit) (v : Value) (A' : Nat → Prop) (ρ' : Rho), True ∧ e = .returned v ∧ (AV.o (.c (.sl 2 1 0 (l.length + 1)))).At w' A' ρ' v ∧ HeapAt w' A' ρ' [(2, rI (l.take i ++ x :: l.drop i))] ∧ w'.os = w.os ∧ w'.tape = w.tape ∧ w'.output = w.output ∧ w.heap.size ≤ w'.heap.size ∧
        (∀ b, b < w.heap.size → ¬ blkOf ρ [(0, rI l), (1, rI [x])] b → w'.heap[b]? = w.heap[b]?) ∧ (∀ b, A' b → b < w'.heap.size ∧ (A b ∨ blkOf ρ [(0, rI l), (1, rI [x])] b ∨ w.heap.size ≤ b)) ∧
        (∀ y ∈ ([(2, rI (l.take i ++ x :: l.drop i))] : Heap), y.2.real → ∀ b m, ρ' y.1 = some (b, m) → blkOf ρ [(0, rI l), (1, rI [x])] b ∨ w.heap.size ≤ b) ∧ (∀ h, h < 2 → ρ' h = ρ h) ∧ (∀ h, 3 ≤ h → ρ' h = none) := by
    intro base c hnil hin hc1 hc2 hcell
    subst hin
    refine (Any2.slices_Insert_int_end_grow Tryz.laysNm221 base l.length c vb 0 1 vc (l.map (Value.int .i64)) [.int .i64 x] w (by omega) hc1 hc2 (by omega) (by simp) rfl hnil hcell hvcell h1v).mono ?_
    rintro e w' ⟨rfl, rfl⟩
    have hg1 := grownCap_ge w (l.length + 1) c (Tryz.laysNm221_ren.t 3)
    have hg2 := grownCap_le_maxLen w (l.length + 1) c (Tryz.laysNm221_ren.t 3) (by unfold maxLen; omega)
    refine ins_fin hA hn hH rfl (b2 := w.heap.size) (alloc_get w _) hg1 (by simp [zc_size]; omega) (by simpa [maxLen] using hg2) (fun j hj => ?_) hi (.inr (Nat.le_refl _)) (fun k hk _ => ?_) (by rw [World.size_alloc]; exact Nat.le_succ _) rfl rfl rfl
    · rw [Array.getElem?_append_left (by simp; omega), List.getElem?_toArray]
      rw [new_get hi, List.getElem?_append]
      by_cases hjl : j < l.length
      · rw [if_pos (by simpa using hjl), if_pos hjl]; exact ints_get hjl
      · rw [if_neg (by simpa using hjl), if_neg hjl, if_pos (by omega)]
        have : j - (l.map (Value.int .i64)).length = 0 := by simp; omega
        rw [this]; rfl
    · exact Below.heap_alloc _ _ _ hk
  rcases h0 with ⟨hl0, a, rfl⟩ | ⟨hl0, b, m, c, hkb, rfl, ⟨hc1, hcM⟩, hc3⟩
  · have hl0' := hl0
    rw [hl0] at grow
    have := grow a 0 (fun _ => rfl) (by omega) (Nat.le_refl _) (by omega) (fun a _ j v hj => by
      have : l = [] := List.length_eq_zero_iff.1 hl0
      subst this; simp at hj)
    rw [hl0]
    exact this
  obtain ⟨b', m', hkb', ⟨cs, ce, hbh, hbs, hbn, hba⟩, hbA, hblt⟩ := hH.objs (0, rI l) (by simp) hl0
  rw [hkb] at hkb'; injection hkb' with hkb'; injection hkb' with e1 e2; subst e1; subst e2
  rw [Nat.zero_mul]
  have hcl : ∀ j, j < l.length → cs[j]? = some (.int .i64 (l.getD j 0)) := by
    intro j hj
    obtain ⟨z, hz1, hz2⟩ := hba j hj 0 (by omega)
    obtain ⟨rfl, _⟩ := hz2
    simpa using hz1
  have hcell : ∀ j v, (l.map (Value.int .i64))[j]? = some v → w.cell? ⟨b, 0 + j, none⟩ = some v := by
    intro j v hj
    have hjl : j < l.length := by simpa using (List.getElem?_eq_some_iff.1 hj).1
    rw [ints_get hjl] at hj
    rw [cell_of_cells hbh, Nat.zero_add, hcl j hjl]; exact hj
  have hne : vb ≠ b := by
    have hp := hH.inj
    simp only [List.pairwise_cons] at hp
    have := hp.1 (1, rI [x]) (by simp) hl0 (by show ([x] : List Int).length ≠ 0; simp) _ _ hkb hkv
    exact fun e => this e.symm
  have h1c : ∀ v ∈ l.map (Value.int .i64), v.oneCell' = true := by
    intro v hv
    obtain ⟨n, _, rfl⟩ := List.mem_map.1 hv
    exact one_int _
  have hcsz : c ≤ cs.size := by rw [hbs]; simpa using hc3
  have hblk : blkOf ρ [(0, rI l), (1, rI [x])] b := ⟨(0, rI l), by simp, hl0, m, hkb⟩
  by_cases hin : i = l.length
  · by_cases hroom : l.length + 1 ≤ c
    · subst hin
      refine (Any2.slices_Insert_int_end_room Tryz.laysNm221 b 0 l.length c vb 0 1 vc [.int .i64 x] w (by omega) hroom (by omega) rfl (fun j hj => ?_) (fun j hj => ?_) hvcell h1v).mono ?_
      · rw [cell_of_cells hbh]
        rw [Array.getElem?_eq_getElem (show 0 + l.length + j < cs.size by omega)]; rfl
      · simp [World.frozen?, hbh]
      · rintro e w' ⟨rfl, rfl⟩
        obtain ⟨cs', g1, g2, g3, g4, g5, g6, g7, g8, g9⟩ := setCells_get [.int .i64 x] (0 + l.length) w cs hbh
        refine ins_fin hA hn hH rfl g1 hroom (by omega) hcM (fun j hj => ?_) hi (.inl ⟨hl0, m, hkb⟩) (fun k hk hnb => g5 k (fun e => hnb (e ▸ hblk))) (by omega) g7 g8 g9
        rw [new_get hi]
        by_cases hjl : j < l.length
        · rw [if_pos hjl, g3 j (by omega)]; exact hcl j hjl
        · rw [if_neg hjl, if_pos (by omega)]
          have := g4 0 (by simp) (by omega)
          rw [show j = 0 + l.length + 0 by omega, this]; rfl
    · exact grow (some ⟨b, 0, none⟩) c (fun h => by cases h) hin hc1 (by omega) (fun a ha j v hj => by
        injection ha with ha; subst ha
        rw [Addr.add_lit]; exact hcell j v hj)
  · by_cases hroom : l.length + 1 ≤ c
    · refine (Any2.slices_Insert_int_shift Tryz.laysNm221 b 0 l.length c i vb 0 1 vc (l.map (Value.int .i64)) [.int .i64 x] w (by omega) (by omega) hroom (by omega) hne (by simp) rfl hcell (fun j hj => ?_) (fun j hj => ?_) hvcell h1c h1v ve ce vcs.size cs.size (by simp [World.shape?, hvh]) (by simp [World.shape?, hbh]) (by omega) (by simp [World.frozen?, hvh]) (by simp [World.frozen?, hvh])).mono ?_
      · rw [cell_of_cells hbh]
        rw [Array.getElem?_eq_getElem (show 0 + j < cs.size by omega)]; rfl
      · simp [World.frozen?, hbh]
      · rintro e w' ⟨rfl, rfl⟩
        obtain ⟨cs', g1, g2, g3, g4, g5, g6, g7, g8, g9⟩ := setCells_get ((l.map (Value.int .i64)).drop i) (0 + (i + 1)) w.drew cs hbh
        obtain ⟨cs2, k1, k2, k3, k4, k5, k6, k7, k8, k9⟩ := setCells_get [.int .i64 x] (0 + i) _ cs' g1
        have hdl : ((l.map (Value.int .i64)).drop i).length = l.length - i := by simp
        refine ins_fin hA hn hH rfl k1 hroom (by omega) hcM (fun j hj => ?_) hi (.inl ⟨hl0, m, hkb⟩) (fun k hk hnb => by
          have hkb2 : k ≠ b := fun e => hnb (e ▸ hblk)
          rw [k5 k hkb2, g5 k hkb2]; rfl) (by rw [k6, g6]; exact Nat.le_refl _) (by rw [k7, g7]; rfl) (by rw [k8, g8]; rfl) (by rw [k9, g9]; rfl)
        rw [new_get hi]
        by_cases hji : j < i
        · rw [if_pos hji, k3 j (by omega), g3 j (by omega)]; exact hcl j (by omega)
        · rw [if_neg hji]
          by_cases hje : j = i
          · rw [if_pos hje]
            have := k4 0 (by simp) (by omega)
            rw [show j = 0 + i + 0 by omega, this]; rfl
          · rw [if_neg hje, k3 j (by simp; omega)]
            have := g4 (j - (i + 1)) (by omega) (by omega)
            rw [show 0 + (i + 1) + (j - (i + 1)) = j by omega] at this
            rw [this, List.getElem?_drop, show i + (j - (i + 1)) = j - 1 by omega]
            exact ints_get (by omega)
    · refine (Any2.slices_Insert_int_grow Tryz.laysNm221 b 0 l.length c i vb 0 1 vc (l.map (Value.int .i64)) [.int .i64 x] w (by omega) (by omega) hc1 (by omega) (by omega) (by simp) rfl hcell hvcell h1c h1v).mono ?_
      rintro e w' ⟨rfl, rfl⟩
      have hg1 := grownCap_ge w (l.length + 1) c (Tryz.laysNm221_ren.t 3)
      have hg2 := grownCap_le_maxLen w (l.length + 1) c (Tryz.laysNm221_ren.t 3) (by unfold maxLen; omega)
      generalize hgc : grownCap w (l.length + 1) c (Tryz.laysNm221_ren.t 3) = gc at *
      obtain ⟨cs', g1, g2, g3, g4, g5, g6, g7, g8, g9⟩ := setCells_get [.int .i64 x] i _ _ (alloc_get2 w (.cells ((((l.map (Value.int .i64)).take i).toArray ++ Builtin.zeroCells (Value.int .i64 0).cells (l.length + 1 - i) ++ Builtin.zeroCells (Value.int .i64 0).cells (gc - (l.length + 1)))) (Tryz.laysNm221_ren.t 3)))
      obtain ⟨cs2, k1, k2, k3, k4, k5, k6, k7, k8, k9⟩ := setCells_get ((l.map (Value.int .i64)).drop i) (i + 1) (World.drew (World.setCells (World.drew (World.alloc w (.cells ((((l.map (Value.int .i64)).take i).toArray ++ Builtin.zeroCells (Value.int .i64 0).cells (l.length + 1 - i) ++ Builtin.zeroCells (Value.int .i64 0).cells (gc - (l.length + 1)))) (Tryz.laysNm221_ren.t 3)))) w.heap.size i [.int .i64 x])) cs' g1
      have hs0 : (((l.map (Value.int .i64)).take i).toArray ++ Builtin.zeroCells (Value.int .i64 0).cells (l.length + 1 - i) ++ Builtin.zeroCells (Value.int .i64 0).cells (gc - (l.length + 1))).size = gc := by
        simp [zc_size]; omega
      rw [hs0] at g2 g4
      have hdl : ((l.map (Value.int .i64)).drop i).length = l.length - i := by simp
      refine ins_fin hA hn hH rfl k1 hg1 (by omega) (by simpa [maxLen] using hg2) (fun j hj => ?_) hi (.inr (Nat.le_refl _)) (fun k hk hnb => by
        rw [k5 k (by omega)]
        show (World.setCells _ _ _ _).heap[k]? = _
        rw [g5 k (by omega)]
        exact Below.heap_alloc _ _ _ hk) (by rw [k6]; show _ ≤ (World.setCells _ _ _ _).heap.size; rw [g6]; show _ ≤ (World.alloc w _).heap.size; rw [World.size_alloc]; exact Nat.le_succ _) (by rw [k7]; show (World.setCells _ _ _ _).os = _; rw [g7]; rfl) (by rw [k8]; show (World.setCells _ _ _ _).tape = _; rw [g8]; rfl) (by rw [k9]; show (World.setCells _ _ _ _).output = _; rw [g9]; rfl)
      rw [new_get hi]
      by_cases hji : j < i
      · rw [if_pos hji, k3 j (by omega), g3 j (by omega)]
        rw [Array.getElem?_append_left (by simp [zc_size]; omega), Array.getElem?_append_left (by simp; omega), List.getElem?_toArray, List.getElem?_take, if_pos hji]
        exact ints_get (by omega)
      · rw [if_neg hji]
        by_cases hje : j = i
        · rw [if_pos hje, k3 j (by omega)]
          have := g4 0 (by simp) (by omega)
          rw [show j = i + 0 by omega, this]; rfl
        · rw [if_neg hje]
          have := k4 (j - (i + 1)) (by omega) (by omega)
          rw [show i + 1 + (j - (i + 1)) = j by omega] at this
          rw [this, List.getElem?_drop, show i + (j - (i + 1)) = j - 1 by omega]
          exact ints_get (by omega)
theorem BinarySearch_ok (l : List Int) (x : Int) (hl : l.length ≤ 1000) (hs : l.Pairwise (· ≤ ·)) :
    Call Tryz.prog 82 [.c (.sl 0 1 0 l.length), I x] [(0, rI l)] 1 (.tup [I (l.countP (· < x) : Nat), BB (l.contains x)]) [(0, rI l)] 1 := by
  refine ⟨fnOk_search, by omega, fun w A ρ vs ha hH hA hn => ?_⟩
  obtain ⟨vl⟩ := vs
  obtain ⟨v0, v1, rfl, h0, h1⟩ := all2_2 ha
  obtain ⟨rfl, _⟩ := h1
  have fin : ∀ (w' : World), w'.heap = w.heap → w'.os = w.os → w'.tape = w.tape → w'.output = w.output → ∃ (_ : Unit) (v : Value) (A' : Nat → Prop) (ρ' : Rho), True ∧ Ending.returned (.tuple #[.int .i64 (l.countP (· < x) : Nat), .bool (l.contains x)]) = .returned v ∧ (AV.tup [I (l.countP (· < x) : Nat), BB (l.contains x)]).At w' A' ρ' v ∧ HeapAt w' A' ρ' [(0, rI l)] ∧ w'.os = w.os ∧ w'.tape = w.tape ∧ w'.output = w.output ∧ w.heap.size ≤ w'.heap.size ∧
        (∀ b, b < w.heap.size → ¬ blkOf ρ [(0, rI l)] b → w'.heap[b]? = w.heap[b]?) ∧ (∀ b, A' b → b < w'.heap.size ∧ (A b ∨ blkOf ρ [(0, rI l)] b ∨ w.heap.size ≤ b)) ∧
        (∀ y ∈ ([(0, rI l)] : Heap), y.2.real → ∀ b m, ρ' y.1 = some (b, m) → blkOf ρ [(0, rI l)] b ∨ w.heap.size ≤ b) ∧ (∀ h, h < 1 → ρ' h = ρ h) ∧ (∀ h, 1 ≤ h → ρ' h = none) := by
    intro w' hh h1 h2 h3
    refine ⟨(), _, A, ρ, trivial, rfl, ⟨_, rfl, ⟨rfl, rfl⟩, ⟨rfl, rfl⟩, trivial⟩, ⟨fun y hy hr => ?_, by simp⟩, h1, h2, h3, by rw [hh]; exact Nat.le_refl _, fun b _ _ => by rw [hh], fun b hb => ⟨by rw [hh]; exact hA b hb, .inl hb⟩, fun y hy hr b m hbm => .inl ⟨y, hy, hr, m, hbm⟩, fun _ _ => rfl, hn⟩
    obtain ⟨b, m, g1, g2, g3, g4⟩ := hH.objs y hy hr
    exact ⟨b, m, g1, AObj.At.mono (fun _ h => h) (fun _ _ => by rw [hh]) (fun _ _ h => h) (by rw [hh]) g2, g3, by rw [hh]; exact g4⟩
  rcases h0 with ⟨hl0, a, rfl⟩ | ⟨hl0, b, m, c, hkb, rfl, ⟨hc1, hcM⟩, hc3⟩
  · have : l = [] := List.length_eq_zero_iff.1 hl0
    subst this
    refine (Any.slices_BinarySearch_int_empty Tryz.laysNm225 a 0 x w).mono ?_
    rintro e w' ⟨rfl, rfl⟩
    exact fin _ rfl rfl rfl rfl
  obtain ⟨b', m', hkb', ⟨cs, ce, hbh, hbs, hbn, hba⟩, hbA, hblt⟩ := hH.objs (0, rI l) (by simp) hl0
  rw [hkb] at hkb'; injection hkb' with hkb'; injection hkb' with e1 e2; subst e1; subst e2
  rw [Nat.zero_mul]
  have ht : l.take l.length = l := List.take_length
  refine (Any.slices_BinarySearch_int Tryz.laysNm225 b 0 l.length c l x w (Nat.le_refl _) (by omega) (fun j hj => ?_) (by rw [ht]; exact hs)).mono ?_
  · rw [cell_of_cells hbh]
    obtain ⟨z, hz1, hz2⟩ := hba j hj 0 (by omega)
    obtain ⟨rfl, _⟩ := hz2
    simpa using hz1
  · rintro e w' ⟨rfl, q, rfl⟩
    rw [ht]
    exact fin _ rfl rfl rfl rfl
end Go.Hw
