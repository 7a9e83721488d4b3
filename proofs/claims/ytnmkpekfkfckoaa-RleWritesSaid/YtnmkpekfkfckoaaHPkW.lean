import Derived.Test.YtnmkpekfkfckoaaHPkF
/- Package pack: the reader's Int, Small, Bit. -/
/- The document's pack: the reader. -/
/- The document's pack: the reader's calls. -/
