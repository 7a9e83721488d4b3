/- Package pack: the reader's Int, Small, Bit. -/
import Derived.Test.YtnlneihalfekiaaHPkF
