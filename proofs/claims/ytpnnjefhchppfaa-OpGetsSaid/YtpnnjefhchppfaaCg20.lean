/- Own texts of this claim. -/
import Derived.Test.YtpnnjefhchppfaaCg17
import Derived.Test.YtpnnjefhchppfaaCg19

