/- WideCounts: the walk of the law. -/
import Derived.Test.YthclhmdgfekaeaaHWd4
