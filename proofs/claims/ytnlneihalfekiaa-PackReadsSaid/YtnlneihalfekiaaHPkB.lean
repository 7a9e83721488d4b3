/- Package pack: the writer. -/
import Derived.Test.YtnlneihalfekiaaHPkA
import Derived.Test.YtnlneihalfekiaaRows
