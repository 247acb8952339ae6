/- Own texts of this claim, and the words they use, one behind the other (wip/tools/trim.py). -/
import Derived.Test.YtpnnjefhchppfaaCb2
import Derived.Test.YtpnnjefhchppfaaCb3

