/- More rules. No program in sight. -/
import Derived.Test.YtflgamohploalaaHEw7
