/- What every law's frame wants: two closed facts of the program. No condition. -/
import Derived.Test.YtpiilepmaomfeaaBase
import Derived.ProofKit
import Derived.OpenShut
import Derived.Deep.Slices
namespace Go.Proofs.Ytpiilepmaomfeaa
open Go.ChangeShapes Go.WideShapes Go.ChangeAt Go.RowKit Go.Deep
theorem law_own : ownKnob Try.prog.godebug = none := by kernel_rfl
theorem law_laidOut : laidOutB Try.prog = true := by kernel_rfl
end Go.Proofs.Ytpiilepmaomfeaa
