/-
  The law NodeNews at the kinds that there are.
  The law NodeNews at kinds that there are not.
-/
import Derived.Test.YtaibdhmiglacdaaGreatDoorEv5

namespace Go.Ev
open Go Go.Proofs
set_option maxRecDepth 100000

noncomputable def nat3 : FuncId → List SV → Option (Option Bool × List PC) := fun f args =>
  if f = 14 then (match args with
    | [.pagg (c0 :: .v (.int .i64 k) :: cs), .one (.p (.v (.int .i64 w))), .one (.p (.v (.int .i64 h)))] =>
      if (decide (1 ≤ k) && decide (k ≤ 11)) && peqs (c0 :: .v (.int .i64 k) :: cs) (nodeK k) then some (none, [.v (.int .i64 (cond (!decide (errC w h = 0)) (errC w h) 0))]) else none
    | _ => none)
  else if f = 15 then (match args with | [] => some (none, [.v (.bool true)]) | _ => none)
  else nat2 f args
noncomputable def E3 : Env := envOf nat3 [] true
def newsC (w h : Int) : Bool := cond (cond (cond (cond (cond true (decide (w ≥ 1)) false) (decide (w ≤ 256)) false) (decide (h ≥ 1)) false) (decide (h ≤ 256)) false) ((cond (!decide (errC w h = 0)) (errC w h) 0) != 0) false
theorem news1 (w h : Int) : fnV E3 500 3 [i64 1, i64 w, i64 h] = cond (newsC w h) (decR (rks E3 3) [.v (.bool false)]) (decR (rks E3 3) [.v (.bool true)]) := by kernel_rfl
theorem news2 (w h : Int) : fnV E3 500 3 [i64 2, i64 w, i64 h] = cond (newsC w h) (decR (rks E3 3) [.v (.bool false)]) (decR (rks E3 3) [.v (.bool true)]) := by kernel_rfl
theorem news3 (w h : Int) : fnV E3 500 3 [i64 3, i64 w, i64 h] = cond (newsC w h) (decR (rks E3 3) [.v (.bool false)]) (decR (rks E3 3) [.v (.bool true)]) := by kernel_rfl
theorem news4 (w h : Int) : fnV E3 500 3 [i64 4, i64 w, i64 h] = cond (newsC w h) (decR (rks E3 3) [.v (.bool false)]) (decR (rks E3 3) [.v (.bool true)]) := by kernel_rfl
theorem news5 (w h : Int) : fnV E3 500 3 [i64 5, i64 w, i64 h] = cond (newsC w h) (decR (rks E3 3) [.v (.bool false)]) (decR (rks E3 3) [.v (.bool true)]) := by kernel_rfl
theorem news6 (w h : Int) : fnV E3 500 3 [i64 6, i64 w, i64 h] = cond (newsC w h) (decR (rks E3 3) [.v (.bool false)]) (decR (rks E3 3) [.v (.bool true)]) := by kernel_rfl
theorem news7 (w h : Int) : fnV E3 500 3 [i64 7, i64 w, i64 h] = cond (newsC w h) (decR (rks E3 3) [.v (.bool false)]) (decR (rks E3 3) [.v (.bool true)]) := by kernel_rfl
theorem news8 (w h : Int) : fnV E3 500 3 [i64 8, i64 w, i64 h] = cond (newsC w h) (decR (rks E3 3) [.v (.bool false)]) (decR (rks E3 3) [.v (.bool true)]) := by kernel_rfl
theorem news9 (w h : Int) : fnV E3 500 3 [i64 9, i64 w, i64 h] = cond (newsC w h) (decR (rks E3 3) [.v (.bool false)]) (decR (rks E3 3) [.v (.bool true)]) := by kernel_rfl
theorem news10 (w h : Int) : fnV E3 500 3 [i64 10, i64 w, i64 h] = cond (newsC w h) (decR (rks E3 3) [.v (.bool false)]) (decR (rks E3 3) [.v (.bool true)]) := by kernel_rfl
theorem news11 (w h : Int) : fnV E3 500 3 [i64 11, i64 w, i64 h] = cond (newsC w h) (decR (rks E3 3) [.v (.bool false)]) (decR (rks E3 3) [.v (.bool true)]) := by kernel_rfl
theorem newsC_false (w h : Int) : newsC w h = false := by
  unfold newsC errC W
  by_cases h1 : 1 ≤ w <;> by_cases h2 : w ≤ 256 <;> by_cases h3 : 1 ≤ h <;> by_cases h4 : h ≤ 256 <;> simp [h1, h2, h3, h4]
end Go.Ev

namespace Go.Ev
open Go Go.Proofs
set_option maxRecDepth 100000

/-- No kind. -/
def oor (k : Int) : Bool := cond (decide (k < 1)) true (decide (k > 11))
def estr : PC := .v (.string ⟨#[]⟩)
theorem name_oor (k : Int) : fnV (envOf (fun _ _ => none) [4] true) 20 12 [i64 k] = cond (oor k) (decR (rks EC 12) [estr]) none := by kernel_rfl
theorem rname_oor (k : Int) : fnV (envOf (fun _ _ => none) [3] true) 20 13 [i64 k] = cond (oor k) (decR (rks EC 13) [estr]) none := by kernel_rfl
noncomputable def nat5 : FuncId → List SV → Option (Option Bool × List PC) := fun f args =>
  if f = 12 ∨ f = 13 then (match args with | [.one (.p (.v (.int .i64 k)))] => some (some (oor k), [estr]) | _ => none)
  else none
noncomputable def nodeZ : List PC := match fnV EC 500 9 [i64 0] with | some r => encR (rks EC 9) r | none => []
theorem new_oor (k : Int) : fnV (envOf nat5 [3] true) 20 9 [i64 k] = cond (oor k) (decR (rks EC 9) nodeZ) none := by kernel_rfl
theorem rnew_oor (k : Int) : fnV (envOf nat5 [5] true) 20 10 [i64 k] = cond (oor k) (decR (rks EC 10) nodeZ) none := by kernel_rfl
noncomputable def nat6 : FuncId → List SV → Option (Option Bool × List PC) := fun f args =>
  if f = 9 ∨ f = 10 then (match args with | [.one (.p (.v (.int .i64 k)))] => some (some (oor k), nodeZ) | _ => none)
  else if f = 15 then (match args with | [] => some (none, [.v (.bool true)]) | _ => none)
  else nat5 f args
theorem news_oor (k w h : Int) : fnV (envOf nat6 [] false) 200 3 [i64 k, i64 w, i64 h] = cond (oor k) (cond (oor k) (cond (oor k) (cond (oor k) (decR (rks EC 3) [.v (.bool true)]) none) none) none) none := by kernel_rfl
end Go.Ev
