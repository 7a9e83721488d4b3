/- image: slices.Repeat of the empty pixel, New; the document's. -/
import Derived.Test.YtflgamohploalaaHImM
