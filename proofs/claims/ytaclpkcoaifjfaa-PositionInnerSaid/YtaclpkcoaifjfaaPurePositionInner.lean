/- For any right style and width: the inner width is not less than 0, and, with twice the padding, the width, unless this is less than twice the padding: then it is 0 (package position alone). Conditions: those of the statement alone. -/
import Derived.Test.YtaclpkcoaifjfaaHPosL
