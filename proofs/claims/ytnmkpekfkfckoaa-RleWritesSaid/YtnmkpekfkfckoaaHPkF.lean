import Derived.Test.YtnmkpekfkfckoaaHPkD
import Derived.Test.YtnmkpekfkfckoaaShelf
/- Package pack: the reader's number. -/
/- Package pack: the reader's calls. -/
