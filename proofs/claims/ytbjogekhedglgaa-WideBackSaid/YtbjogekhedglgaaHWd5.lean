/- WideCounts: the walk of the law. -/
import Derived.Test.YtbjogekhedglgaaHWd4
