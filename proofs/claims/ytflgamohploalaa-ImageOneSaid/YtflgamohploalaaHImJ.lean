/- image: nearer, Over; the document's. -/
import Derived.Test.YtflgamohploalaaHImI
