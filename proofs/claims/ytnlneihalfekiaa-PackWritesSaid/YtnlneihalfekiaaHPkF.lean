/- Package pack: the reader's calls. -/
import Derived.Test.YtnlneihalfekiaaHPkE
