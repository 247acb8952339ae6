/- Own texts of this claim, and the words they use, one behind the other (wip/tools/trim.py). -/
import Derived.Test.YtpnnjefhchppfaaCp2
import Derived.Test.YtpnnjefhchppfaaCp3

