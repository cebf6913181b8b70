/- What is proved here: parts W76 of the walk of the law and of its plain side; no condition but those that each theorem states. -/
import Derived.Test.YtcbceacjhmblnaaGreatF1
/- What is proved: a law of two codes answers true to them, as its row says it. -/
set_option linter.all false
set_option maxRecDepth 100000
set_option maxHeartbeats 4000000
namespace Go.Proofs.YtcbceacjhmblnaaGreat
open Go.ChangeShapes Go.WideShapes Go.ChangeAt Go.RowKit Go.Hw
/-- What the row says of one code. -/
def BytesAt (W : World) (v : Value) (zs : List Int) : Prop :=
  ∃ a cap, v = .slice a zs.length cap ∧ zs.length ≤ cap ∧ (∀ i, 0 ≤ zs.getD i 0 ∧ zs.getD i 0 ≤ 255) ∧ ∀ i, i < zs.length → ∃ b o, a = some ⟨b, o, none⟩ ∧ b < W.heap.size ∧ W.cell? ⟨b, o + i, none⟩ = some (.int .u8 (zs.getD i 0))
theorem bytes_arg {H : Type} {enc : TypeId × Value → H} {W : World} {base : Nat} {v : Value} {d : DataW H} {p : List MemPlace} (h0 : DataW.Trod enc Tryz.prog W 0 (fun _ => true) true 22 v d p) (hval : Value.okWide Tryz.prog W .any base 22 v) :
    ∃ zs, BytesAt W v zs := by
  obtain ⟨a0, len, cap, rfl⟩ := okWide_slice Tryz.underlying22 hval
  obtain ⟨fuel, hf⟩ := h0
  rcases open_ints Tryz.underlying22 Tryz.underlying5 cells5 hf with ⟨hcs, hx⟩ | ⟨a, len', cap', zs, hcs, _, hl, hm, hz, hx, hcell, hwz⟩
  · simp [Value.cells] at hcs
    obtain ⟨rfl, rfl, rfl⟩ := hcs
    exact ⟨[], none, 0, rfl, Nat.le_refl _, fun i => by simp, fun i hi => absurd hi (Nat.not_lt_zero i)⟩
  · simp [Value.cells] at hcs
    obtain ⟨rfl, rfl, rfl⟩ := hcs
    simp only [if_true] at hz
    have hlen : (zs.take len).length = len := by simp; omega
    have hb := bytes_wf (zs.take len) (fun n hn => hwz n (List.mem_of_mem_take hn))
    refine ⟨zs.take len, some a, cap, by rw [hlen], by omega, hb, ?_⟩
    intro i hi
    have h1 := hcell i (by omega)
    have h2 : zs.getD i 0 = (zs.take len).getD i 0 := by
      simp only [List.getD]; rw [List.getElem?_take, if_pos (by omega)]
    rw [h2] at h1
    exact cell_at (spot_at (hcell 0 (by omega))) h1
theorem bytes_tree {W : World} {v : Value} {zs : List Int} (h : BytesAt W v zs) : (Cell.t (bytesT zs)).At W (fun b => b < W.heap.size) (fun _ => none) v := by
  obtain ⟨a, cap, rfl, hcap, _, hcell⟩ := h
  refine ⟨a, cap, rfl, hcap, fun i hi => ?_⟩
  obtain ⟨b, o, e1, e2, e3⟩ := hcell i hi
  refine ⟨b, o, e1, e2, fun j hj => ?_⟩
  have : j = 0 := by omega
  subst this
  exact ⟨_, by rw [Nat.mul_one, Nat.add_zero]; exact e3, rfl, rfl⟩
theorem law_below2 {f : FuncId} {zs ys : List Int} (hc : Go.Hw.Call Tryz.prog f [.c (.t (bytesT zs)), .c (.t (bytesT ys))] [] 0 (.o (BB true)) [] 0) (W : World) {v u : Value} (hv : BytesAt W v zs) (hu : BytesAt W u ys) :
    Calls Tryz.prog f #[v, u] W fun e W' => e = .returned (.bool true) ∧ Below W.heap.size W W' := by
  obtain ⟨_, _, h⟩ := hc
  refine (h W (fun b => b < W.heap.size) (fun _ => none) #[v, u] ⟨bytes_tree hv, bytes_tree hu, trivial⟩ ⟨fun x hx => (by cases hx), List.Pairwise.nil⟩ (fun _ h => h) (fun _ _ => rfl)).mono ?_
  rintro e W' ⟨_, v, A', ρ', _, rfl, hv, _, hos, htp, hou, hsz, hold, _⟩
  obtain ⟨rfl, _⟩ := hv
  exact ⟨rfl, ⟨hos, htp, hou, hsz, fun k hk => hold k hk (fun ⟨x, hx, _⟩ => (by cases hx))⟩⟩
end Go.Proofs.YtcbceacjhmblnaaGreat
