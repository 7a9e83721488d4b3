/- The document's clip: distances, crossings, cut. -/
import Derived.Test.YtleelfdpefmnnaaHCl6
