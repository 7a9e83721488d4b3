/- The document's numbers: of api.Wide. -/
import Derived.Test.YthclhmdgfekaeaaHZG
