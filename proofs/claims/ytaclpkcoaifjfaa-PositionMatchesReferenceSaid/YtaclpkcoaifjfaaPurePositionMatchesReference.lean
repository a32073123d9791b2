/- For any styles and integers, right or not, all functions return what the reference implementation returns. Conditions: those of the statement alone. -/
import Derived.Test.YtaclpkcoaifjfaaHPosN
