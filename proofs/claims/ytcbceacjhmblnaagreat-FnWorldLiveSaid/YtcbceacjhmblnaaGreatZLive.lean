/- What is proved here: parts ZLive of the walk of the law and of its plain side; no condition but those that each theorem states. -/
import Derived.Test.YtcbceacjhmblnaaGreatF1
/- What is proved: the row of the law FnWorldLive fits the code as it stands. No condition. -/
set_option linter.all false
set_option maxRecDepth 100000
set_option maxHeartbeats 4000000
namespace Go.Proofs.YtcbceacjhmblnaaGreat
open Go.ChangeShapes Go.WideShapes Go.ChangeAt Go.RowKit Go.Hw
theorem fnWorldLive_closed : joinedFacts Tryz.prog 14 Tryz.f14 Rows.fnWorldLiveSpec Rows.fnWorldLiveRow = true := by
  unfold joinedFacts
  simp only [Bool.and_eq_true]
  repeat' apply And.intro
  all_goals as_aux_lemma => kernel_rfl
theorem fnWorldLive_wrap : (Tryz.f14).isWrapper Tryz.prog Rows.fnWorldLiveRow.wrapper Rows.fnWorldLiveRow.mainSum := by
  unfold Func.isWrapper; first | (rw [if_pos (by decide +kernel)]; kernel_rfl) | (rw [if_neg (by decide +kernel)]; exact ⟨rfl, rfl⟩)
theorem fnWorldLive_inst : (Tryz.f14).isInstance Tryz.prog Rows.fnWorldLiveRow.origin Rows.fnWorldLiveRow.targs := of_decide_eq_true (by kernel_rfl)
theorem fnWorldLive_named : Tryz.prog.funcNamed Rows.fnWorldLiveRow.func = some 14 := by kernel_rfl
end Go.Proofs.YtcbceacjhmblnaaGreat
