/- What is proved here: parts W75 of the walk of the law and of its plain side; no condition but those that each theorem states. -/
import Derived.Test.YtcbceacjhmblnaaGreatW77
import Derived.Test.YtcbceacjhmblnaaGreatW78
/- What is proved: what the laws say of sums and of what came, of every world that a play comes to. -/
set_option linter.all false
namespace Go.Hw
open Go.Proofs
theorem lwSums_w (w : Two) (I : ZInv w) : Call Tryz.prog 31 [.g [.t (chainsT w.list)]] [] 0 (.o (BB true)) [] 0 := by
  obtain ⟨a, b⟩ := w
  exact lwSums_ok a b I.winv.ok I.ab I.ba
theorem lwOnce_w (w : Two) (I : ZInv w) : Call Tryz.prog 26 [.g [.t (chainsT w.list)]] [] 0 (.o (BB true)) [] 0 := by
  obtain ⟨a, b⟩ := w
  exact lwOnce_ok a b I.winv
end Go.Hw
