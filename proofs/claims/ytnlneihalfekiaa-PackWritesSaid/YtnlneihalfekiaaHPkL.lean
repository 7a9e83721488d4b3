/- Package pack: the reader's Text. -/
import Derived.Test.YtnlneihalfekiaaHPkK
