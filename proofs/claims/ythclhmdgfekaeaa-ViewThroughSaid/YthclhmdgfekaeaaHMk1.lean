/- Package matrix: Scale, Identity, Move, numbers, Across. -/
import Derived.Test.YthclhmdgfekaeaaHZE
import Derived.Test.YthclhmdgfekaeaaRows
