/- image: signs of pixels, rows as texts. -/
import Derived.Test.YtflgamohploalaaHIm8
import Derived.Test.YtflgamohploalaaHEw9
import Derived.Test.YtflgamohploalaaHEwT
