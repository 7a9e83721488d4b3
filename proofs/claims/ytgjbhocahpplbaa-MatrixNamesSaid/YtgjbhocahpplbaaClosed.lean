/- Calls of functions of no arguments, reckoned. -/
import Derived.Test.YtgjbhocahpplbaaEvP
import Derived.Test.YtgjbhocahpplbaaRows
namespace Go.Proofs.Ytgjbhocahpplbaa
theorem enters : EV.Enters Try.prog := EV.enters_of (by kernel_rfl)
end Go.Proofs.Ytgjbhocahpplbaa
