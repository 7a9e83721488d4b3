/- ImageSpans: the walk. -/
import Derived.Test.YtflgamohploalaaHImJ
import Derived.Test.YtflgamohploalaaHImE
