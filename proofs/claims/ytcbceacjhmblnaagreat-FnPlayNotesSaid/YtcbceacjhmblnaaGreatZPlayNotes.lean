/- What is proved here: parts ZPlayNotes of the walk of the law and of its plain side; no condition but those that each theorem states. -/
import Derived.Test.YtcbceacjhmblnaaGreatF1
/- What is proved: the row of the law FnPlayNotes fits the code as it stands. No condition. -/
set_option linter.all false
set_option maxRecDepth 100000
set_option maxHeartbeats 4000000
namespace Go.Proofs.YtcbceacjhmblnaaGreat
open Go.ChangeShapes Go.WideShapes Go.ChangeAt Go.RowKit Go.Hw
theorem fnPlayNotes_closed : joinedFacts Tryz.prog 16 Tryz.f16 Rows.fnPlayNotesSpec Rows.fnPlayNotesRow = true := by
  unfold joinedFacts
  simp only [Bool.and_eq_true]
  repeat' apply And.intro
  all_goals as_aux_lemma => kernel_rfl
theorem fnPlayNotes_wrap : (Tryz.f16).isWrapper Tryz.prog Rows.fnPlayNotesRow.wrapper Rows.fnPlayNotesRow.mainSum := by
  unfold Func.isWrapper; first | (rw [if_pos (by decide +kernel)]; kernel_rfl) | (rw [if_neg (by decide +kernel)]; exact ⟨rfl, rfl⟩)
theorem fnPlayNotes_inst : (Tryz.f16).isInstance Tryz.prog Rows.fnPlayNotesRow.origin Rows.fnPlayNotesRow.targs := of_decide_eq_true (by kernel_rfl)
theorem fnPlayNotes_named : Tryz.prog.funcNamed Rows.fnPlayNotesRow.func = some 16 := by kernel_rfl
end Go.Proofs.YtcbceacjhmblnaaGreat
