/- Rules for texts: joined, cut, read at a place. No program in sight. -/
import Derived.Test.YtflgamohploalaaHEw8
