/- image: Rows. -/
import Derived.Test.YtflgamohploalaaHIm9
