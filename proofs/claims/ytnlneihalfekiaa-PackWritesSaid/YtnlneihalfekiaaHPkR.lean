/- Package pack: the reader's Int, Bit, Text where they fail. -/
import Derived.Test.YtnlneihalfekiaaHPkL
