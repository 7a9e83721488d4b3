/- image: sized, whole; the document's. -/
import Derived.Test.YtnmkpekfkfckoaaHIm2
