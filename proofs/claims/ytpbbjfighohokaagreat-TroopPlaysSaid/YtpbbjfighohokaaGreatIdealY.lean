/- A machine for closed code; what it tells of calls; closed calls as something that is known besides. -/
import Derived.Test.YtpbbjfighohokaaGreatIdealX

