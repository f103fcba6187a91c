/-
  node.Check of a new node of kind 1.
  node.Check of a new node of kind 2.
  node.Check of a new node of kind 3.
  node.Check of a new node of kind 4.
-/
import Derived.Test.YtaibdhmiglacdaaGreatDoorEv5

namespace Go.Ev
open Go Go.Proofs
set_option maxRecDepth 100000
theorem check1 (w h : Int) : fnV E2 2000 14 [.pagg (nodeK 1), i64 w, i64 h] = cond (!decide (errC w h = 0)) (decR (rks E2 14) [.v (.int .i64 (errC w h))]) (decR (rks E2 14) [.v (.int .i64 0)]) := by kernel_rfl
end Go.Ev

namespace Go.Ev
open Go Go.Proofs
set_option maxRecDepth 100000
theorem check2 (w h : Int) : fnV E2 2000 14 [.pagg (nodeK 2), i64 w, i64 h] = cond (!decide (errC w h = 0)) (decR (rks E2 14) [.v (.int .i64 (errC w h))]) (decR (rks E2 14) [.v (.int .i64 0)]) := by kernel_rfl
end Go.Ev

namespace Go.Ev
open Go Go.Proofs
set_option maxRecDepth 100000
theorem check3 (w h : Int) : fnV E2 2000 14 [.pagg (nodeK 3), i64 w, i64 h] = cond (!decide (errC w h = 0)) (decR (rks E2 14) [.v (.int .i64 (errC w h))]) (decR (rks E2 14) [.v (.int .i64 0)]) := by kernel_rfl
end Go.Ev

namespace Go.Ev
open Go Go.Proofs
set_option maxRecDepth 100000
theorem check4 (w h : Int) : fnV E2 2000 14 [.pagg (nodeK 4), i64 w, i64 h] = cond (!decide (errC w h = 0)) (decR (rks E2 14) [.v (.int .i64 (errC w h))]) (decR (rks E2 14) [.v (.int .i64 0)]) := by kernel_rfl
end Go.Ev
