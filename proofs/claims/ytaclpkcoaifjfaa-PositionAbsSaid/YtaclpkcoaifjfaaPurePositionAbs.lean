/- For any right style: a positioned box is as wide as position.Width says, and moves with the place from which it is counted (package position alone). Conditions: those of the statement alone. -/
import Derived.Test.YtaclpkcoaifjfaaHPosM
