/- image: math/bits.Mul with 1, slices.Repeat of a pixel, New; the document's. -/
import Derived.Test.YtflgamohploalaaHImK
