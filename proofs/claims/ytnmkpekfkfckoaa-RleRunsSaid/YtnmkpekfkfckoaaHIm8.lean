import Derived.Test.YtnmkpekfkfckoaaHIm5
/- image: Check; the document's May. -/
/- image: Slot; the document's; sign. -/
/- image: slices.Clone of pixels. -/
