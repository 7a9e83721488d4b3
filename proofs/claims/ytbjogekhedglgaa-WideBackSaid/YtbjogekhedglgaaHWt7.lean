/- WideTexts. -/
import Derived.Test.YtbjogekhedglgaaHWt6
import Derived.Test.YtbjogekhedglgaaHWs1
