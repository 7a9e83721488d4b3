/- Walking over named blocks: a block given up to reading; a slice within a record that is loaded gets a name of its own. No program in sight. -/
import Derived.Test.YtflgamohploalaaHEwT
