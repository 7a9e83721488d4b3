/- ViewThrough. -/
import Derived.Test.YthclhmdgfekaeaaHVt2
import Derived.Test.YthclhmdgfekaeaaHRow4
