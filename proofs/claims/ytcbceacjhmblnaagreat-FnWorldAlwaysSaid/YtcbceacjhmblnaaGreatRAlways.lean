/- What is proved here: parts RAlways of the walk of the law and of its plain side; no condition but those that each theorem states. -/
import Derived.Test.YtcbceacjhmblnaaGreatLAlways
import Derived.Test.YtcbceacjhmblnaaGreatZAlways
import Derived.Test.YtcbceacjhmblnaaGreatW76
/- What is proved: the law FnWorldAlways answers true to every two codes, and the codes read behind the call as they read before. No condition. -/
set_option linter.all false
set_option maxRecDepth 100000
set_option maxHeartbeats 4000000
namespace Go.Proofs.YtcbceacjhmblnaaGreat
open Go.ChangeShapes Go.WideShapes Go.ChangeAt Go.RowKit Go.Hw
theorem fnWorldAlways_lifted (os : Os) (started : os.Started) (H : Type) (enc : TypeId × Value → H) :
    ReturnsInHanded {} Tryz.checked os 17 .any (Rows.fnWorldAlwaysSpec.pre6 enc Tryz.prog Tryz.f17 Rows.fnWorldAlwaysRow.domain false) (Rows.fnWorldAlwaysSpec.post enc Tryz.prog Tryz.f17 false true false false) := by
  refine returnsInHanded_of_change (C := Tryz.checked) own started (by kernel_rfl) Tryz.func17
    (ChangeSpec.witness6 (enc := enc) (C := Tryz.checked) false ⟨#[], #[.slice none 0 0, .slice none 0 0], []⟩ 8 (by kernel_rfl) (by kernel_rfl) (by kernel_rfl) (by kernel_rfl)) ?_
  intro W base args ds gs before hval0 hW _ _
  have hval : ∀ (j : Nat) t v, Tryz.f17.params[j]? = some t → args[j]? = some v → Value.okWide Tryz.prog W .any base t v := hval0
  have hW' := hW
  obtain ⟨p, q, hA0, hV, rfl, _, _⟩ := hW
  have hA : DataW.TrodAll enc Tryz.prog W 0 (fun _ => true) true Tryz.f17.params.toList args.toList ds p := hA0
  rw [Tryz.params17] at hA hval
  obtain ⟨v0, v1, d0, d1, p0, p1, rfl, rfl, rfl, h0, h1⟩ := trodAll_two hA
  obtain ⟨rfl, rfl⟩ := trodVars_none hV
  obtain ⟨zs, hz⟩ := bytes_arg h0 (hval 0 22 v0 rfl rfl)
  obtain ⟨ys, hy⟩ := bytes_arg h1 (hval 1 22 v1 rfl rfl)
  have hz2 := hz
  have hy2 := hy
  obtain ⟨_, _, _, _, zb, _⟩ := hz2
  obtain ⟨_, _, _, _, yb, _⟩ := hy2
  clear hA0 hval0
  simp only [List.append_nil] at hW'
  have hlt : ∀ x ∈ p0 ++ p1, x.block < W.heap.size := fun x hx => by simpa using hW'.lt x hx
  have hargs : ∀ (W' : World) (v : Value) (d : DataW H) (p : List MemPlace), (∀ x ∈ p, x.block < W.heap.size) → DataW.Trod enc Tryz.prog W 0 (fun _ => true) true 22 v d p → Below W.heap.size W W' → DataW.Trod enc Tryz.prog W' 0 (fun b => decide (b < W.heap.size)) true 22 v d p :=
    fun W' v d p hl h hn => Below.trod laidOut (by kernel_rfl) (of_decide_eq_true (by kernel_rfl)) h hn hl
  refine (law_below2 (FnWorldAlways_ok zs ys zb yb) W hz hy).mono fun e W' ⟨he, hnx⟩ => ?_
  subst he
  exact ⟨_, rfl, _, _, _, [], _, [], hW', trodAll_mk1 (shut_bool Tryz.underlying4 true), trodAll_mk2 (hargs _ _ _ _ (fun x hx => hlt x (List.mem_append_left _ hx)) h0 hnx) (hargs _ _ _ _ (fun x hx => hlt x (List.mem_append_right _ hx)) h1 hnx), rfl, hnx.frame _, fun h => by cases h⟩
theorem fnWorldAlways_holds : Rows.FnWorldAlwaysSaid :=
  OpenClaim.holds_of_wide 17 Tryz.f17 rfl rfl rfl rfl rfl rfl rfl ⟨rfl, rfl, rfl, rfl, rfl⟩ rfl rfl rfl rfl rfl fnWorldAlways_named Tryz.func17 fnWorldAlways_closed fnWorldAlways_inst fnWorldAlways_wrap
    (fun os started H enc _ => fnWorldAlways_lifted os started H enc)
end Go.Proofs.YtcbceacjhmblnaaGreat
