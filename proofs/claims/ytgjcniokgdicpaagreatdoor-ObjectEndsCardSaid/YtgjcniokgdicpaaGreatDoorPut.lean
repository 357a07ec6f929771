/- (joined into Held) -/
import Derived.Test.YtgjcniokgdicpaaGreatDoorHeld
