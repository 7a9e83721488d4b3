/- Calls of functions of no arguments, reckoned. -/
import Derived.Test.YtnlneihalfekiaaEvP
import Derived.Test.YtnlneihalfekiaaRows
namespace Go.Proofs.Ytnlneihalfekiaa
theorem enters : EV.Enters Try.prog := EV.enters_of (by kernel_rfl)
end Go.Proofs.Ytnlneihalfekiaa
