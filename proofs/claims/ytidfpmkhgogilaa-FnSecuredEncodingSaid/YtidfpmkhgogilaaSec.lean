/- Secured messages: VerifyMAC, validity, Protect, Unprotect. -/
import Derived.Test.YtidfpmkhgogilaaMac
import Derived.Test.YtidfpmkhgogilaaSVal
import Derived.Deep.RegionHeld3
namespace Go.Proofs.Ytidfpmkhgogilaa
open Go.RowKit Go.Sep


end Go.Proofs.Ytidfpmkhgogilaa
