/-
  node.Check of a new node of kind 5.
  node.Check of a new node of kind 6.
  node.Check of a new node of kind 7.
  node.Check of a new node of kind 8.
-/
import Derived.Test.YtaibdhmiglacdaaGreatDoorEv5

namespace Go.Ev
open Go Go.Proofs
set_option maxRecDepth 100000
theorem check5 (w h : Int) : fnV E2c 2000 14 [.pagg (nodeK 5), i64 w, i64 h] = cond (!decide (errC w h = 0)) (decR (rks E2c 14) [.v (.int .i64 (errC w h))]) (decR (rks E2c 14) [.v (.int .i64 0)]) := by kernel_rfl
end Go.Ev

namespace Go.Ev
open Go Go.Proofs
set_option maxRecDepth 100000
theorem check6 (w h : Int) : fnV E2c 2000 14 [.pagg (nodeK 6), i64 w, i64 h] = cond (!decide (errC w h = 0)) (decR (rks E2c 14) [.v (.int .i64 (errC w h))]) (decR (rks E2c 14) [.v (.int .i64 0)]) := by kernel_rfl
end Go.Ev

namespace Go.Ev
open Go Go.Proofs
set_option maxRecDepth 100000
theorem check7 (w h : Int) : fnV E2 2000 14 [.pagg (nodeK 7), i64 w, i64 h] = cond (!decide (errC w h = 0)) (decR (rks E2 14) [.v (.int .i64 (errC w h))]) (decR (rks E2 14) [.v (.int .i64 0)]) := by kernel_rfl
end Go.Ev

namespace Go.Ev
open Go Go.Proofs
set_option maxRecDepth 100000
theorem check8 (w h : Int) : fnV E2 2000 14 [.pagg (nodeK 8), i64 w, i64 h] = cond (!decide (errC w h = 0)) (decR (rks E2 14) [.v (.int .i64 (errC w h))]) (decR (rks E2 14) [.v (.int .i64 0)]) := by kernel_rfl
end Go.Ev
