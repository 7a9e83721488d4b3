/- The document's pack: the reader. -/
import Derived.Test.YtnlneihalfekiaaHPkR
import Derived.Test.YtnlneihalfekiaaHPkU
