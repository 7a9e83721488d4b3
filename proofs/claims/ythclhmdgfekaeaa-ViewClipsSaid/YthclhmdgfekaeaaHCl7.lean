/- The document's clip: distances, crossings, cut. -/
import Derived.Test.YthclhmdgfekaeaaHCl6
