/- Calls of functions of no arguments, reckoned. -/
import Derived.Test.YthclhmdgfekaeaaEvP
import Derived.Test.YthclhmdgfekaeaaRows
namespace Go.Proofs.Ythclhmdgfekaeaa
theorem enters : EV.Enters Try.prog := EV.enters_of (by kernel_rfl)
end Go.Proofs.Ythclhmdgfekaeaa
