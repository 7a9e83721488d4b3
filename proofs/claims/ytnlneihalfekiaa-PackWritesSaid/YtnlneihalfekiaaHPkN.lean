/- PackBack: what is written, read back. -/
import Derived.Test.YtnlneihalfekiaaHPkM
import Derived.Test.YtnlneihalfekiaaHPkG
import Derived.Test.YtnlneihalfekiaaHRow5
namespace Go.Proofs.Ytnlneihalfekiaa
set_option linter.unusedSimpArgs false
set_option linter.unusedVariables false
open Go.RowKit EV
open SX (Wr Tv Qu Rm Sh Is conjP eqs_iff eqs_false)
open EW (PlL PlT PlV PlVs LfV Mm Bt Opn GV YT lpOf nums)
set_option maxRecDepth 20000
def low16 (n : Int) : Nat := (n % 65536).toNat
def bN (f : Bool) : Nat := if f then 1 else 0
def enc (o : Ob) : List Int := if o.k = 0 then formN o.u else if o.k = 1 then formN (fold o.i) else if o.k = 2 then formN (low16 o.n) else if o.k = 3 then formN (bN o.f) else if o.k = 4 then formN o.bs.length ++ o.bs else []
structure Ob.ok (w : World) (o : Ob) : Prop where
  u : o.u < 18446744073709551616
  i0 : -9223372036854775808 ≤ o.i
  i1 : o.i ≤ 9223372036854775807
  by_ : By o.bs
  inA : InA (.slice o.a o.bs.length o.cap) o.b o.off o.bs.length o.room 1
  src : SrcG w o.b o.off o.room (nums .u8 o.bs)
end Go.Proofs.Ytnlneihalfekiaa
