/- PackReads: one call of both readers. -/
import Derived.Test.YtnlneihalfekiaaHPkW
