/- image: the document's Rows, Texts. -/
import Derived.Test.YtflgamohploalaaHImB
