/- PackBack: the reader at what was written. -/
import Derived.Test.YtnlneihalfekiaaHPkN
import Derived.Test.YtnlneihalfekiaaHPkH
