/- PackReads: one call of both readers answers alike. -/
import Derived.Test.YtnlneihalfekiaaHPkY
import Derived.Test.YtnlneihalfekiaaHEwJ
