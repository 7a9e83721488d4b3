/- Package pack: the writer's other calls. -/
import Derived.Test.YtnlneihalfekiaaHPkC
