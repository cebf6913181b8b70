/- What is proved here: parts ZPlayCrowd of the walk of the law and of its plain side; no condition but those that each theorem states. -/
import Derived.Test.YtcbceacjhmblnaaGreatF1
/- What is proved: the row of the law FnPlayCrowd fits the code as it stands. No condition. -/
set_option linter.all false
set_option maxRecDepth 100000
set_option maxHeartbeats 4000000
namespace Go.Proofs.YtcbceacjhmblnaaGreat
open Go.ChangeShapes Go.WideShapes Go.ChangeAt Go.RowKit Go.Hw
theorem fnPlayCrowd_closed : joinedFacts Tryz.prog 13 Tryz.f13 Rows.fnPlayCrowdSpec Rows.fnPlayCrowdRow = true := by
  unfold joinedFacts
  simp only [Bool.and_eq_true]
  repeat' apply And.intro
  all_goals as_aux_lemma => kernel_rfl
theorem fnPlayCrowd_wrap : (Tryz.f13).isWrapper Tryz.prog Rows.fnPlayCrowdRow.wrapper Rows.fnPlayCrowdRow.mainSum := by
  unfold Func.isWrapper; first | (rw [if_pos (by decide +kernel)]; kernel_rfl) | (rw [if_neg (by decide +kernel)]; exact ⟨rfl, rfl⟩)
theorem fnPlayCrowd_inst : (Tryz.f13).isInstance Tryz.prog Rows.fnPlayCrowdRow.origin Rows.fnPlayCrowdRow.targs := of_decide_eq_true (by kernel_rfl)
theorem fnPlayCrowd_named : Tryz.prog.funcNamed Rows.fnPlayCrowdRow.func = some 13 := by kernel_rfl
end Go.Proofs.YtcbceacjhmblnaaGreat
