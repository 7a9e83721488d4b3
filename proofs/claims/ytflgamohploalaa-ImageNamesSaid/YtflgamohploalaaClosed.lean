/- Calls of functions of no arguments, reckoned. -/
import Derived.Test.YtflgamohploalaaEvP
import Derived.Test.YtflgamohploalaaRows
namespace Go.Proofs.Ytflgamohploalaa
theorem enters : EV.Enters Try.prog := EV.enters_of (by kernel_rfl)
end Go.Proofs.Ytflgamohploalaa
