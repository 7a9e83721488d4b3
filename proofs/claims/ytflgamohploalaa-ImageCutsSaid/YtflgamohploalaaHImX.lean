/- ImageOne: the walk. -/
import Derived.Test.YtflgamohploalaaHImV
import Derived.Test.YtflgamohploalaaHImS
