/- Own texts of this claim, and the words they use, one behind the other (wip/tools/trim.py). -/
import Derived.Test.YtpnnjefhchppfaaCp17
import Derived.Test.YtpnnjefhchppfaaCp19

