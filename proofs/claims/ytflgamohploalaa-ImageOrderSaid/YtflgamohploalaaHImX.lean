import Derived.Test.YtflgamohploalaaHImR
import Derived.Test.YtflgamohploalaaHImV
/- ImageLays: the walk. -/
/- ImageOne: the walk. -/
