/- Walking over named blocks: a part with three bounds of a block that came in gets a name of its own. No program in sight. -/
import Derived.Test.YtflgamohploalaaHEwS
