/- image: Slot; the document's; sign. -/
import Derived.Test.YtflgamohploalaaHIm6
