/- Helpers for a row: slices of records that came in, told as grown ones. No function in sight. -/
import Derived.Test.YthclhmdgfekaeaaHZR
import Derived.Test.YthclhmdgfekaeaaHEw7
