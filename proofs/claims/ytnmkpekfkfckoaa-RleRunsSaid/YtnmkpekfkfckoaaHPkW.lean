import Derived.Test.YtnmkpekfkfckoaaHPkD
import Derived.Test.YtnmkpekfkfckoaaShelf
/- Package pack: the reader's number. -/
/- Package pack: the reader's calls. -/
/- The document's pack: the writer. -/
/- Package pack: the reader's Int, Small, Bit. -/
/- The document's pack: the reader. -/
/- The document's pack: the reader's calls. -/
