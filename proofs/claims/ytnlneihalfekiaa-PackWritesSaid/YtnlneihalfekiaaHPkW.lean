/- The document's pack: the reader's calls. -/
import Derived.Test.YtnlneihalfekiaaHPkV
