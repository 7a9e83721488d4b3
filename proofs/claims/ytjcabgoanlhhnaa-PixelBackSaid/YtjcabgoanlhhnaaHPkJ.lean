/- The document's pack: the writer. -/
import Derived.Test.YtjcabgoanlhhnaaHPkF
