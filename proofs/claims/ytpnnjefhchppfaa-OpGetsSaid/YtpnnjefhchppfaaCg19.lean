/- Own texts of this claim. -/
import Derived.Test.YtpnnjefhchppfaaCg8

