/- What is proved here: parts ZMove of the walk of the law and of its plain side; no condition but those that each theorem states. -/
import Derived.Test.YtcbceacjhmblnaaGreatF1
/- What is proved: the row of the law FnWorldMove fits the code as it stands. No condition. -/
set_option linter.all false
set_option maxRecDepth 100000
set_option maxHeartbeats 4000000
namespace Go.Proofs.YtcbceacjhmblnaaGreat
open Go.ChangeShapes Go.WideShapes Go.ChangeAt Go.RowKit Go.Hw
theorem fnWorldMove_closed : joinedFacts Tryz.prog 18 Tryz.f18 Rows.fnWorldMoveSpec Rows.fnWorldMoveRow = true := by
  unfold joinedFacts
  simp only [Bool.and_eq_true]
  repeat' apply And.intro
  all_goals as_aux_lemma => kernel_rfl
theorem fnWorldMove_wrap : (Tryz.f18).isWrapper Tryz.prog Rows.fnWorldMoveRow.wrapper Rows.fnWorldMoveRow.mainSum := by
  unfold Func.isWrapper; first | (rw [if_pos (by decide +kernel)]; kernel_rfl) | (rw [if_neg (by decide +kernel)]; exact ⟨rfl, rfl⟩)
theorem fnWorldMove_inst : (Tryz.f18).isInstance Tryz.prog Rows.fnWorldMoveRow.origin Rows.fnWorldMoveRow.targs := of_decide_eq_true (by kernel_rfl)
theorem fnWorldMove_named : Tryz.prog.funcNamed Rows.fnWorldMoveRow.func = some 18 := by kernel_rfl
end Go.Proofs.YtcbceacjhmblnaaGreat
