/- image: Lay where it fails; the document's Lay. -/
import Derived.Test.YtflgamohploalaaHImQ
