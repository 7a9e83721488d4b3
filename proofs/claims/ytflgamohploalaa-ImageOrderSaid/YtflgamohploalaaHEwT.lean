import Derived.Test.YtflgamohploalaaHEw7
import Derived.Test.YtflgamohploalaaHEwJ
/- More rules. No program in sight. -/
/- Rules for texts: joined, cut, read at a place. No program in sight. -/
/- Walking over named blocks: a part of a block that came in gets a name of its own. No program in sight. -/
/- Walking over named blocks: a part with three bounds of a block that came in gets a name of its own. No program in sight. -/
