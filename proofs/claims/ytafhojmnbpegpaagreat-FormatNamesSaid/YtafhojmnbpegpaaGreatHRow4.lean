/- Helpers for a row: slices of records that came in, told as grown ones. No function in sight. -/
import Derived.Test.YtafhojmnbpegpaaGreatHZR
import Derived.Test.YtafhojmnbpegpaaGreatHEw7
