/- Package wide: Sum: the sum of products of two lists. -/
import Derived.Test.YtbjogekhedglgaaHZW
