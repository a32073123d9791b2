/- For any right style and two rooms: a width is at least PropMin, and at most PropMax, if there is one that is not less; with the greater room it is not less, and greater by at most the difference; with a PropWidth, it is the same (package position alone). Conditions: those of the statement alone. -/
import Derived.Test.YtaclpkcoaifjfaaHPosO
