/- WideDivides: the walk of the law. -/
import Derived.Test.YthclhmdgfekaeaaHWd5
