/- What is proved here: parts ZSums of the walk of the law and of its plain side; no condition but those that each theorem states. -/
import Derived.Test.YtcbceacjhmblnaaGreatF1
/- What is proved: the row of the law FnWorldSums fits the code as it stands. No condition. -/
set_option linter.all false
set_option maxRecDepth 100000
set_option maxHeartbeats 4000000
namespace Go.Proofs.YtcbceacjhmblnaaGreat
open Go.ChangeShapes Go.WideShapes Go.ChangeAt Go.RowKit Go.Hw
theorem fnWorldSums_closed : joinedFacts Tryz.prog 15 Tryz.f15 Rows.fnWorldSumsSpec Rows.fnWorldSumsRow = true := by
  unfold joinedFacts
  simp only [Bool.and_eq_true]
  repeat' apply And.intro
  all_goals as_aux_lemma => kernel_rfl
theorem fnWorldSums_wrap : (Tryz.f15).isWrapper Tryz.prog Rows.fnWorldSumsRow.wrapper Rows.fnWorldSumsRow.mainSum := by
  unfold Func.isWrapper; first | (rw [if_pos (by decide +kernel)]; kernel_rfl) | (rw [if_neg (by decide +kernel)]; exact ⟨rfl, rfl⟩)
theorem fnWorldSums_inst : (Tryz.f15).isInstance Tryz.prog Rows.fnWorldSumsRow.origin Rows.fnWorldSumsRow.targs := of_decide_eq_true (by kernel_rfl)
theorem fnWorldSums_named : Tryz.prog.funcNamed Rows.fnWorldSumsRow.func = some 15 := by kernel_rfl
end Go.Proofs.YtcbceacjhmblnaaGreat
