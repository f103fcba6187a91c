/-
  The program of this seat, for the evaluator.
  Natives of the node chapter.
  node.Check of the new nodes.
  node.Check of the new nodes: the contents of kinds 5 and 6 are known.
-/
import Derived.Test.YtaibdhmiglacdaaGreatDoorEv3
import Derived.Test.YtaibdhmiglacdaaGreatDoorChecked

namespace Go.Ev
open Go Go.Proofs
set_option maxRecDepth 100000

def RK.ro : RK → RK | .fr s => .rd (.list s) | k => k
noncomputable def mixP (t : TypeId) : Bool := match Tryz.prog.underlying t with | some (.slice _) => true | some (.pointer _) => true | some (.func _ _ _) => true | _ => false
/-- The settings, with the functions whose law is known. -/
noncomputable def envOf (nat : FuncId → List SV → Option (Option Bool × List PC)) (cut : List Nat) (merge : Bool) : Env where
  P := Tryz.prog
  G := fun _ => none
  rk := fun f => if f = 35 ∨ f = 94 then some (((resKinds ⟨Tryz.prog, fun _ => none, fun _ => none, fun _ => false, fun _ => false, fun _ => false, fun _ _ => none, fun _ => false, false⟩ f).getD []).flatten.map RK.ro) else none
  peek := fun f => decide (f = 81)
  inl := fun f => decide (f = 89) || decide (f = 93) || decide (f = 95) || decide (f = 91)
  mix := mixP
  nat := nat
  cut := fun i => cut.contains i
  merge := merge
noncomputable def EC : Env := envOf (fun _ _ => none) [] false
noncomputable def EM : Env := envOf (fun _ _ => none) [] true

theorem mixed : Tryz.prog.follows .mixedOrders = true := Tryz.checked.mixed
def i64 (n : Int) : SV := .one (.p (.v (.int .i64 n)))

theorem example_true : fnV EC 2000 15 [] = decR (rks EC 15) [.v (.bool true)] := by kernel_rfl
theorem within_law (x lo hi : Int) : fnV EM 10 59 [i64 x, i64 lo, i64 hi] = decR (rks EM 59) [.v (.bool (cond (decide (lo ≤ x)) (decide (x ≤ hi)) false))] := by kernel_rfl
end Go.Ev

namespace Go.Ev
open Go Go.Proofs
set_option maxRecDepth 100000

def encR : (ks : List RK) → RTup ks → List PC
  | [], _ => []
  | .rd q :: ks, t => q.enc t.1 :: encR ks t.2
  | .fr s :: ks, t => .sl s false t.1 :: encR ks t.2

/-- Closed cells are alike. -/
def veq : Value → Value → Bool
  | .int k n, .int k' n' => decide (k = k') && decide (n = n')
  | .bool b, .bool b' => b == b'
  | .string a, .string b => a.data.toList == b.data.toList
  | _, _ => false
mutual
def peq : PC → PC → Bool
  | .v x, .v y => veq x y
  | .sl s nn es, .sl s' nn' es' => s == s' && nn == nn' && peqss es es'
  | _, _ => false
def peqs : List PC → List PC → Bool
  | [], [] => true
  | x :: xs, y :: ys => peq x y && peqs xs ys
  | _, _ => false
def peqss : List (List PC) → List (List PC) → Bool
  | [], [] => true
  | x :: xs, y :: ys => peqs x y && peqss xs ys
  | _, _ => false
end

noncomputable def nodeK (k : Int) : List PC := match fnV EC 500 9 [i64 k] with | some r => (encR (rks EC 9) r).dropLast | none => []

def W (x : Int) : Bool := cond (decide (1 ≤ x)) (decide (x ≤ 256)) false
noncomputable def nat1 : FuncId → List SV → Option (Option Bool × List PC) := fun f args =>
  if f = 59 then (match args with | [.one (.p (.v (.int .i64 x))), .one (.p (.v (.int .i64 lo))), .one (.p (.v (.int .i64 hi)))] => some (none, [.v (.bool (cond (decide (lo ≤ x)) (decide (x ≤ hi)) false))]) | _ => none)
  else none
noncomputable def E1 : Env := envOf nat1 [] true
def errC (w h : Int) : Int := cond (cond (!W w) true (!W h)) 15 0
theorem common1 (w h : Int) : fnV E1 100 32 [.pagg (nodeK 1), i64 w, i64 h] = cond (cond (!W w) true (!W h)) (decR (rks E1 32) [.v (.int .i64 15)]) (decR (rks E1 32) [.v (.int .i64 0)]) := by kernel_rfl
theorem common2 (w h : Int) : fnV E1 100 32 [.pagg (nodeK 2), i64 w, i64 h] = cond (cond (!W w) true (!W h)) (decR (rks E1 32) [.v (.int .i64 15)]) (decR (rks E1 32) [.v (.int .i64 0)]) := by kernel_rfl
theorem common3 (w h : Int) : fnV E1 100 32 [.pagg (nodeK 3), i64 w, i64 h] = cond (cond (!W w) true (!W h)) (decR (rks E1 32) [.v (.int .i64 15)]) (decR (rks E1 32) [.v (.int .i64 0)]) := by kernel_rfl
theorem common4 (w h : Int) : fnV E1 100 32 [.pagg (nodeK 4), i64 w, i64 h] = cond (cond (!W w) true (!W h)) (decR (rks E1 32) [.v (.int .i64 15)]) (decR (rks E1 32) [.v (.int .i64 0)]) := by kernel_rfl
theorem common5 (w h : Int) : fnV E1 100 32 [.pagg (nodeK 5), i64 w, i64 h] = cond (cond (!W w) true (!W h)) (decR (rks E1 32) [.v (.int .i64 15)]) (decR (rks E1 32) [.v (.int .i64 0)]) := by kernel_rfl
theorem common6 (w h : Int) : fnV E1 100 32 [.pagg (nodeK 6), i64 w, i64 h] = cond (cond (!W w) true (!W h)) (decR (rks E1 32) [.v (.int .i64 15)]) (decR (rks E1 32) [.v (.int .i64 0)]) := by kernel_rfl
theorem common7 (w h : Int) : fnV E1 100 32 [.pagg (nodeK 7), i64 w, i64 h] = cond (cond (!W w) true (!W h)) (decR (rks E1 32) [.v (.int .i64 15)]) (decR (rks E1 32) [.v (.int .i64 0)]) := by kernel_rfl
theorem common8 (w h : Int) : fnV E1 100 32 [.pagg (nodeK 8), i64 w, i64 h] = cond (cond (!W w) true (!W h)) (decR (rks E1 32) [.v (.int .i64 15)]) (decR (rks E1 32) [.v (.int .i64 0)]) := by kernel_rfl
theorem common9 (w h : Int) : fnV E1 100 32 [.pagg (nodeK 9), i64 w, i64 h] = cond (cond (!W w) true (!W h)) (decR (rks E1 32) [.v (.int .i64 15)]) (decR (rks E1 32) [.v (.int .i64 0)]) := by kernel_rfl
theorem common10 (w h : Int) : fnV E1 100 32 [.pagg (nodeK 10), i64 w, i64 h] = cond (cond (!W w) true (!W h)) (decR (rks E1 32) [.v (.int .i64 15)]) (decR (rks E1 32) [.v (.int .i64 0)]) := by kernel_rfl
theorem common11 (w h : Int) : fnV E1 100 32 [.pagg (nodeK 11), i64 w, i64 h] = cond (cond (!W w) true (!W h)) (decR (rks E1 32) [.v (.int .i64 15)]) (decR (rks E1 32) [.v (.int .i64 0)]) := by kernel_rfl
end Go.Ev

namespace Go.Ev
open Go Go.Proofs
set_option maxRecDepth 100000

noncomputable def nat2 : FuncId → List SV → Option (Option Bool × List PC) := fun f args =>
  if f = 32 then (match args with
    | [.pagg (c0 :: .v (.int .i64 k) :: cs), .one (.p (.v (.int .i64 w))), .one (.p (.v (.int .i64 h)))] =>
      if (decide (1 ≤ k) && decide (k ≤ 11)) && peqs (c0 :: .v (.int .i64 k) :: cs) (nodeK k) then some (none, [.v (.int .i64 (errC w h))]) else none
    | _ => none)
  else nat1 f args
noncomputable def E2 : Env := envOf nat2 [] true
end Go.Ev

namespace Go.Ev
open Go Go.Proofs
set_option maxRecDepth 100000

noncomputable def nat2c : FuncId → List SV → Option (Option Bool × List PC) := fun f args =>
  if f = 34 then (match args with
    | [.pagg (c0 :: .v (.int .i64 k) :: cs)] =>
      if (decide (5 ≤ k) && decide (k ≤ 6)) && peqs (c0 :: .v (.int .i64 k) :: cs) (nodeK k) then some (none, [.v (.int .i64 0)]) else none
    | _ => none)
  else nat2 f args
noncomputable def E2c : Env := envOf nat2c [] true
end Go.Ev
