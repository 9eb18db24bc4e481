/- Two facts of the program that each row's proof asks. -/
import Derived.Test.YtfmebbnccjaadaaChecked
import Derived.ProofKit
import Derived.ChangeSame
import Derived.Carry
namespace Go.Proofs.Ytfmebbnccjaadaa
theorem own_knob : ownKnob Try.prog.godebug = none := by kernel_rfl
theorem laid_out : laidOutB Try.prog = true := by kernel_rfl
end Go.Proofs.Ytfmebbnccjaadaa
