/- PackReads: the walk of the law. -/
import Derived.Test.YtnlneihalfekiaaHPkZ
import Derived.Test.YtnlneihalfekiaaHPkO
