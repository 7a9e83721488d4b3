/- image: Cut; the document's. -/
import Derived.Test.YtflgamohploalaaHImF
