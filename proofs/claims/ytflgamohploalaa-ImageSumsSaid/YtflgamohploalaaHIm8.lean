/- image: slices.Clone of pixels. -/
import Derived.Test.YtflgamohploalaaHIm7
