/- ImageLays: the walk. -/
import Derived.Test.YtflgamohploalaaHImR
