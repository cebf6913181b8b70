/- What is proved here: parts ZAlways of the walk of the law and of its plain side; no condition but those that each theorem states. -/
import Derived.Test.YtcbceacjhmblnaaGreatF1
/- What is proved: the row of the law FnWorldAlways fits the code as it stands. No condition. -/
set_option linter.all false
set_option maxRecDepth 100000
set_option maxHeartbeats 4000000
namespace Go.Proofs.YtcbceacjhmblnaaGreat
open Go.ChangeShapes Go.WideShapes Go.ChangeAt Go.RowKit Go.Hw
theorem fnWorldAlways_closed : joinedFacts Tryz.prog 17 Tryz.f17 Rows.fnWorldAlwaysSpec Rows.fnWorldAlwaysRow = true := by
  unfold joinedFacts
  simp only [Bool.and_eq_true]
  repeat' apply And.intro
  all_goals as_aux_lemma => kernel_rfl
theorem fnWorldAlways_wrap : (Tryz.f17).isWrapper Tryz.prog Rows.fnWorldAlwaysRow.wrapper Rows.fnWorldAlwaysRow.mainSum := by
  unfold Func.isWrapper; first | (rw [if_pos (by decide +kernel)]; kernel_rfl) | (rw [if_neg (by decide +kernel)]; exact ⟨rfl, rfl⟩)
theorem fnWorldAlways_inst : (Tryz.f17).isInstance Tryz.prog Rows.fnWorldAlwaysRow.origin Rows.fnWorldAlwaysRow.targs := of_decide_eq_true (by kernel_rfl)
theorem fnWorldAlways_named : Tryz.prog.funcNamed Rows.fnWorldAlwaysRow.func = some 17 := by kernel_rfl
end Go.Proofs.YtcbceacjhmblnaaGreat
