/- Package pack: the reader's number. -/
import Derived.Test.YtnlneihalfekiaaHPkD
import Derived.Test.YtnlneihalfekiaaShelf
