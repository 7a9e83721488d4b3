import Derived.Test.YtnmkpekfkfckoaaHIm1
/- image: Same; the document's. -/
/- image: sized, whole; the document's. -/
