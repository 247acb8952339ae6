/- Own texts of this claim. -/
import Derived.Test.YtpnnjefhchppfaaCg2
import Derived.Test.YtpnnjefhchppfaaCg3

