/-
  node.Check of a new node of kind 9.
  node.Check of a new node of kind 10.
  node.Check of a new node of kind 11.
-/
import Derived.Test.YtaibdhmiglacdaaGreatDoorEv5

namespace Go.Ev
open Go Go.Proofs
set_option maxRecDepth 100000
theorem check9 (w h : Int) : fnV E2 2000 14 [.pagg (nodeK 9), i64 w, i64 h] = cond (!decide (errC w h = 0)) (decR (rks E2 14) [.v (.int .i64 (errC w h))]) (decR (rks E2 14) [.v (.int .i64 0)]) := by kernel_rfl
end Go.Ev

namespace Go.Ev
open Go Go.Proofs
set_option maxRecDepth 100000
theorem check10 (w h : Int) : fnV E2 2000 14 [.pagg (nodeK 10), i64 w, i64 h] = cond (!decide (errC w h = 0)) (decR (rks E2 14) [.v (.int .i64 (errC w h))]) (decR (rks E2 14) [.v (.int .i64 0)]) := by kernel_rfl
end Go.Ev

namespace Go.Ev
open Go Go.Proofs
set_option maxRecDepth 100000
theorem check11 (w h : Int) : fnV E2 2000 14 [.pagg (nodeK 11), i64 w, i64 h] = cond (!decide (errC w h = 0)) (decR (rks E2 14) [.v (.int .i64 (errC w h))]) (decR (rks E2 14) [.v (.int .i64 0)]) := by kernel_rfl
end Go.Ev
