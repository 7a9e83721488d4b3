/- PackReads: lists of numbers, of both readers. -/
import Derived.Test.YtnlneihalfekiaaHPkX
