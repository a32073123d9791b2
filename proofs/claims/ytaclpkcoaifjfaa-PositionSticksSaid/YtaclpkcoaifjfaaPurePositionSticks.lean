/- For any sticky box: it stays in what it belongs to, is not above where it belongs, and not above scroll + top, unless it ends at the end; if the window is scrolled on, it does not go up, and goes down by at most as much (package position alone). Conditions: those of the statement alone. -/
import Derived.Test.YtaclpkcoaifjfaaHPosK
