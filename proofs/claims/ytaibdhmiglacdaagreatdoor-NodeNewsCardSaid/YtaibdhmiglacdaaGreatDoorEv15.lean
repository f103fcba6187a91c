/-
  The content of the new node of kind 5.
-/
import Derived.Test.YtaibdhmiglacdaaGreatDoorEv4
import Derived.Test.YtaibdhmiglacdaaGreatDoorEv3
import Derived.Test.YtaibdhmiglacdaaGreatDoorEv5

namespace Go.Ev
open Go Go.Proofs
set_option maxRecDepth 100000
theorem content5 : fnN EC 3000 34 [.pagg (nodeK 5)] = decR (rks EC 34) [.v (.int .i64 0)] := by kernel_rfl
theorem law34_5 : Law EC 34 [.pagg (nodeK 5)] [.v (.int .i64 0)] := law_of mixed (fun f ag c cs r h => by cases h) ((fnN_eq EC rfl _ _ _).symm.trans content5)
end Go.Ev
