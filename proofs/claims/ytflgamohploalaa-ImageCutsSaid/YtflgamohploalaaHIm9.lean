/- image: sign, slices.Chunk of pixels, Rows. -/
import Derived.Test.YtflgamohploalaaHImT
