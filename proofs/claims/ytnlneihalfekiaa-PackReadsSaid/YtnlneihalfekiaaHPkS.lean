/- The document's pack: the writer's Text. -/
import Derived.Test.YtnlneihalfekiaaHPkJ
