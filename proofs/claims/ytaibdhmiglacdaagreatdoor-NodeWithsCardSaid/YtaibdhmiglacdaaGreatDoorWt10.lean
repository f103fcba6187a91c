/-
  The program of this seat, for the evaluator.
  slices.Clone, of slices that are nil and that are not
  path.Check: a round.
  path.Check: its law.
  slices.Equal: its laws, for the five types of elements.
  The reference's comparisons of lists: their laws.
  The reference's comparisons of images and warps: their laws.
  node.Same: its law.
  The reference's SameMask and SameContent: their laws.
  Nodes out of their cells.
  The reference's Same: its law.
  The two comparisons of nodes are the same.
  NodeSames: the law at any two nodes.
  The reference's Same: an entry.
  The chapter's examples hold: an entry for the law's own call.
-/
import Derived.Test.YtaibdhmiglacdaaGreatDoorWt8
import Derived.Test.YtaibdhmiglacdaaGreatDoorChecked
import Derived.Test.YtaibdhmiglacdaaGreatDoorWt9

namespace Go.Ev
open Go Go.Proofs
set_option maxRecDepth 100000

def RK.ro : RK → RK | .fr s => .rd (.list s) | k => k
noncomputable def mixP (t : TypeId) : Bool := match Tryz.prog.underlying t with | some (.slice _) => true | some (.pointer _) => true | some (.func _ _ _) => true | _ => false
/-- The settings, with the functions whose law is known. -/
noncomputable def envOf (nat : FuncId → List SV → Option (Option Bool × List PC)) (cut : List Nat) (merge : Bool) : Env where
  P := Tryz.prog
  G := fun _ => none
  rk := fun f => if f = 35 ∨ f = 94 ∨ f = 22 then some (((resKinds ⟨Tryz.prog, fun _ => none, fun _ => none, fun _ => false, fun _ => false, fun _ => false, fun _ _ => none, fun _ => false, false⟩ f).getD []).flatten.map RK.ro) else none
  peek := fun f => decide (f = 81)
  inl := fun f => decide (f = 89) || decide (f = 93) || decide (f = 95) || decide (f = 91)
  mix := mixP
  nat := nat
  cut := fun i => cut.contains i
  merge := merge
noncomputable def EC : Env := envOf (fun _ _ => none) [] false
noncomputable def EM : Env := envOf (fun _ _ => none) [] true

theorem mixed : Tryz.prog.follows .mixedOrders = true := Tryz.checked.mixed
def i64 (n : Int) : SV := .one (.p (.v (.int .i64 n)))

theorem example_true : fnV EC 2000 15 [] = decR (rks EC 15) [.v (.bool true)] := by kernel_rfl
theorem within_law (x lo hi : Int) : fnV EM 10 59 [i64 x, i64 lo, i64 hi] = decR (rks EM 59) [.v (.bool (cond (decide (lo ≤ x)) (decide (x ≤ hi)) false))] := by kernel_rfl
end Go.Ev

namespace Go.Ev
open Go Go.Proofs
set_option maxRecDepth 100000
set_option linter.unusedVariables false

noncomputable def tab47t : Tab := []
theorem tab47t_ok : TabOK EM tab47t := trivial
noncomputable abbrev E47t : Env := EM.withN (natT tab47t)
noncomputable def g47t : (List (List PC) × Unit) → Tr (List (List PC) × Unit) := fun y => match y with
 | (a0, ()) =>
 .br (decide ((((0 + (List.length a0)) * 8) ≤ 140737488355328)))
  (.br (Nat.ble (0 + (0 + (List.length a0))) (List.length ((List.take 0 []) ++ a0)))
   (.ret ((List.take (0 + (List.length a0)) (List.drop 0 ((List.take 0 []) ++ a0))), ()))
   (.fail))
  (.fail)
noncomputable def F47t : FnS where
  f := 47
  ss := [SS.one (CS.p (PS.slt 1))]
  hs := [HT.lst]
  rs := [(PS.sl 1)]
  ro := [HT.lst]
  val := fun x => (g47t x).val
theorem F47t_loops : loopsU [] (bodyOf EM 47) = [] := by kernel_rfl
theorem F47t_run : F47t.Run E47t [] [] 20 g47t := by intro y; obtain ⟨a0, ⟨⟩⟩ := y; kernel_rfl
theorem F47t_okc : okCodeL (bodyOf EM 47) = true := by kernel_rfl
theorem F47t_ok : F47t.OK EM := FnS.law (tab := []) (un := []) mixed rfl tab47t_ok (by show LPs _ _ _ (loopsU [] (bodyOf EM 47)); rw [F47t_loops]; exact trivial) F47t_okc (fun _ => rfl) F47t_run
noncomputable def tab47n : Tab := []
theorem tab47n_ok : TabOK EM tab47n := trivial
noncomputable abbrev E47n : Env := EM.withN (natT tab47n)
noncomputable def g47n : (Unit) → Tr (List (List PC) × Unit) := fun y => match y with
 | (()) =>
 .ret ([], ())
noncomputable def F47n : FnS where
  f := 47
  ss := [SS.one (CS.p PS.nil)]
  hs := []
  rs := [(PS.sl 1)]
  ro := [HT.lst]
  val := fun x => (g47n x).val
theorem F47n_loops : loopsU [] (bodyOf EM 47) = [] := by kernel_rfl
theorem F47n_run : F47n.Run E47n [] [] 20 g47n := by intro y; obtain ⟨⟨⟩⟩ := y; kernel_rfl
theorem F47n_okc : okCodeL (bodyOf EM 47) = true := by kernel_rfl
theorem F47n_ok : F47n.OK EM := FnS.law (tab := []) (un := []) mixed rfl tab47n_ok (by show LPs _ _ _ (loopsU [] (bodyOf EM 47)); rw [F47n_loops]; exact trivial) F47n_okc (fun _ => rfl) F47n_run
noncomputable def P47n : FnP where
  f := 47
  ss := [SS.one (CS.p PS.nil)]
  hs := []
  rs := [(PS.sl 1)]
  ro := [HT.lst]
  pre := fun _ => none
  res := fun x => (g47n x).get (HTup.d [HT.lst])
theorem P47n_ok : P47n.OK EM := F47n_ok.total (fun _ => none) (fun x => (g47n x).get (HTup.d [HT.lst])) (fun y _ => by obtain ⟨⟨⟩⟩ := y; exact Tr.get_val (t := g47n (())) (by kernel_rfl) _)
noncomputable def tab48t : Tab := []
theorem tab48t_ok : TabOK EM tab48t := trivial
noncomputable abbrev E48t : Env := EM.withN (natT tab48t)
noncomputable def g48t : (List (List PC) × Unit) → Tr (List (List PC) × Unit) := fun y => match y with
 | (a0, ()) =>
 .br (decide ((((0 + (List.length a0)) * 32) ≤ 140737488355328)))
  (.br (Nat.ble (0 + (0 + (List.length a0))) (List.length ((List.take 0 []) ++ a0)))
   (.ret ((List.take (0 + (List.length a0)) (List.drop 0 ((List.take 0 []) ++ a0))), ()))
   (.fail))
  (.fail)
noncomputable def F48t : FnS where
  f := 48
  ss := [SS.one (CS.p (PS.slt 4))]
  hs := [HT.lst]
  rs := [(PS.sl 4)]
  ro := [HT.lst]
  val := fun x => (g48t x).val
theorem F48t_loops : loopsU [] (bodyOf EM 48) = [] := by kernel_rfl
theorem F48t_run : F48t.Run E48t [] [] 20 g48t := by intro y; obtain ⟨a0, ⟨⟩⟩ := y; kernel_rfl
theorem F48t_okc : okCodeL (bodyOf EM 48) = true := by kernel_rfl
theorem F48t_ok : F48t.OK EM := FnS.law (tab := []) (un := []) mixed rfl tab48t_ok (by show LPs _ _ _ (loopsU [] (bodyOf EM 48)); rw [F48t_loops]; exact trivial) F48t_okc (fun _ => rfl) F48t_run
noncomputable def tab48n : Tab := []
theorem tab48n_ok : TabOK EM tab48n := trivial
noncomputable abbrev E48n : Env := EM.withN (natT tab48n)
noncomputable def g48n : (Unit) → Tr (List (List PC) × Unit) := fun y => match y with
 | (()) =>
 .ret ([], ())
noncomputable def F48n : FnS where
  f := 48
  ss := [SS.one (CS.p PS.nil)]
  hs := []
  rs := [(PS.sl 4)]
  ro := [HT.lst]
  val := fun x => (g48n x).val
theorem F48n_loops : loopsU [] (bodyOf EM 48) = [] := by kernel_rfl
theorem F48n_run : F48n.Run E48n [] [] 20 g48n := by intro y; obtain ⟨⟨⟩⟩ := y; kernel_rfl
theorem F48n_okc : okCodeL (bodyOf EM 48) = true := by kernel_rfl
theorem F48n_ok : F48n.OK EM := FnS.law (tab := []) (un := []) mixed rfl tab48n_ok (by show LPs _ _ _ (loopsU [] (bodyOf EM 48)); rw [F48n_loops]; exact trivial) F48n_okc (fun _ => rfl) F48n_run
noncomputable def P48n : FnP where
  f := 48
  ss := [SS.one (CS.p PS.nil)]
  hs := []
  rs := [(PS.sl 4)]
  ro := [HT.lst]
  pre := fun _ => none
  res := fun x => (g48n x).get (HTup.d [HT.lst])
theorem P48n_ok : P48n.OK EM := F48n_ok.total (fun _ => none) (fun x => (g48n x).get (HTup.d [HT.lst])) (fun y _ => by obtain ⟨⟨⟩⟩ := y; exact Tr.get_val (t := g48n (())) (by kernel_rfl) _)
noncomputable def tab49t : Tab := []
theorem tab49t_ok : TabOK EM tab49t := trivial
noncomputable abbrev E49t : Env := EM.withN (natT tab49t)
noncomputable def g49t : (List (List PC) × Unit) → Tr (List (List PC) × Unit) := fun y => match y with
 | (a0, ()) =>
 .br (decide ((((0 + (List.length a0)) * 40) ≤ 140737488355328)))
  (.br (Nat.ble (0 + (0 + (List.length a0))) (List.length ((List.take 0 []) ++ a0)))
   (.ret ((List.take (0 + (List.length a0)) (List.drop 0 ((List.take 0 []) ++ a0))), ()))
   (.fail))
  (.fail)
noncomputable def F49t : FnS where
  f := 49
  ss := [SS.one (CS.p (PS.slt 5))]
  hs := [HT.lst]
  rs := [(PS.sl 5)]
  ro := [HT.lst]
  val := fun x => (g49t x).val
theorem F49t_loops : loopsU [] (bodyOf EM 49) = [] := by kernel_rfl
theorem F49t_run : F49t.Run E49t [] [] 20 g49t := by intro y; obtain ⟨a0, ⟨⟩⟩ := y; kernel_rfl
theorem F49t_okc : okCodeL (bodyOf EM 49) = true := by kernel_rfl
theorem F49t_ok : F49t.OK EM := FnS.law (tab := []) (un := []) mixed rfl tab49t_ok (by show LPs _ _ _ (loopsU [] (bodyOf EM 49)); rw [F49t_loops]; exact trivial) F49t_okc (fun _ => rfl) F49t_run
noncomputable def tab49n : Tab := []
theorem tab49n_ok : TabOK EM tab49n := trivial
noncomputable abbrev E49n : Env := EM.withN (natT tab49n)
noncomputable def g49n : (Unit) → Tr (List (List PC) × Unit) := fun y => match y with
 | (()) =>
 .ret ([], ())
noncomputable def F49n : FnS where
  f := 49
  ss := [SS.one (CS.p PS.nil)]
  hs := []
  rs := [(PS.sl 5)]
  ro := [HT.lst]
  val := fun x => (g49n x).val
theorem F49n_loops : loopsU [] (bodyOf EM 49) = [] := by kernel_rfl
theorem F49n_run : F49n.Run E49n [] [] 20 g49n := by intro y; obtain ⟨⟨⟩⟩ := y; kernel_rfl
theorem F49n_okc : okCodeL (bodyOf EM 49) = true := by kernel_rfl
theorem F49n_ok : F49n.OK EM := FnS.law (tab := []) (un := []) mixed rfl tab49n_ok (by show LPs _ _ _ (loopsU [] (bodyOf EM 49)); rw [F49n_loops]; exact trivial) F49n_okc (fun _ => rfl) F49n_run
noncomputable def P49n : FnP where
  f := 49
  ss := [SS.one (CS.p PS.nil)]
  hs := []
  rs := [(PS.sl 5)]
  ro := [HT.lst]
  pre := fun _ => none
  res := fun x => (g49n x).get (HTup.d [HT.lst])
theorem P49n_ok : P49n.OK EM := F49n_ok.total (fun _ => none) (fun x => (g49n x).get (HTup.d [HT.lst])) (fun y _ => by obtain ⟨⟨⟩⟩ := y; exact Tr.get_val (t := g49n (())) (by kernel_rfl) _)
noncomputable def tab50t : Tab := []
theorem tab50t_ok : TabOK EM tab50t := trivial
noncomputable abbrev E50t : Env := EM.withN (natT tab50t)
noncomputable def g50t : (List (List PC) × Unit) → Tr (List (List PC) × Unit) := fun y => match y with
 | (a0, ()) =>
 .br (decide ((((0 + (List.length a0)) * 56) ≤ 140737488355328)))
  (.br (Nat.ble (0 + (0 + (List.length a0))) (List.length ((List.take 0 []) ++ a0)))
   (.ret ((List.take (0 + (List.length a0)) (List.drop 0 ((List.take 0 []) ++ a0))), ()))
   (.fail))
  (.fail)
noncomputable def F50t : FnS where
  f := 50
  ss := [SS.one (CS.p (PS.slt 7))]
  hs := [HT.lst]
  rs := [(PS.sl 7)]
  ro := [HT.lst]
  val := fun x => (g50t x).val
theorem F50t_loops : loopsU [] (bodyOf EM 50) = [] := by kernel_rfl
theorem F50t_run : F50t.Run E50t [] [] 20 g50t := by intro y; obtain ⟨a0, ⟨⟩⟩ := y; kernel_rfl
theorem F50t_okc : okCodeL (bodyOf EM 50) = true := by kernel_rfl
theorem F50t_ok : F50t.OK EM := FnS.law (tab := []) (un := []) mixed rfl tab50t_ok (by show LPs _ _ _ (loopsU [] (bodyOf EM 50)); rw [F50t_loops]; exact trivial) F50t_okc (fun _ => rfl) F50t_run
noncomputable def tab50n : Tab := []
theorem tab50n_ok : TabOK EM tab50n := trivial
noncomputable abbrev E50n : Env := EM.withN (natT tab50n)
noncomputable def g50n : (Unit) → Tr (List (List PC) × Unit) := fun y => match y with
 | (()) =>
 .ret ([], ())
noncomputable def F50n : FnS where
  f := 50
  ss := [SS.one (CS.p PS.nil)]
  hs := []
  rs := [(PS.sl 7)]
  ro := [HT.lst]
  val := fun x => (g50n x).val
theorem F50n_loops : loopsU [] (bodyOf EM 50) = [] := by kernel_rfl
theorem F50n_run : F50n.Run E50n [] [] 20 g50n := by intro y; obtain ⟨⟨⟩⟩ := y; kernel_rfl
theorem F50n_okc : okCodeL (bodyOf EM 50) = true := by kernel_rfl
theorem F50n_ok : F50n.OK EM := FnS.law (tab := []) (un := []) mixed rfl tab50n_ok (by show LPs _ _ _ (loopsU [] (bodyOf EM 50)); rw [F50n_loops]; exact trivial) F50n_okc (fun _ => rfl) F50n_run
noncomputable def P50n : FnP where
  f := 50
  ss := [SS.one (CS.p PS.nil)]
  hs := []
  rs := [(PS.sl 7)]
  ro := [HT.lst]
  pre := fun _ => none
  res := fun x => (g50n x).get (HTup.d [HT.lst])
theorem P50n_ok : P50n.OK EM := F50n_ok.total (fun _ => none) (fun x => (g50n x).get (HTup.d [HT.lst])) (fun y _ => by obtain ⟨⟨⟩⟩ := y; exact Tr.get_val (t := g50n (())) (by kernel_rfl) _)
noncomputable def tab51t : Tab := []
theorem tab51t_ok : TabOK EM tab51t := trivial
noncomputable abbrev E51t : Env := EM.withN (natT tab51t)
noncomputable def g51t : (List (List PC) × Unit) → Tr (List (List PC) × Unit) := fun y => match y with
 | (a0, ()) =>
 .br (decide ((((0 + (List.length a0)) * 16) ≤ 140737488355328)))
  (.br (Nat.ble (0 + (0 + (List.length a0))) (List.length ((List.take 0 []) ++ a0)))
   (.ret ((List.take (0 + (List.length a0)) (List.drop 0 ((List.take 0 []) ++ a0))), ()))
   (.fail))
  (.fail)
noncomputable def F51t : FnS where
  f := 51
  ss := [SS.one (CS.p (PS.slt 2))]
  hs := [HT.lst]
  rs := [(PS.sl 2)]
  ro := [HT.lst]
  val := fun x => (g51t x).val
theorem F51t_loops : loopsU [] (bodyOf EM 51) = [] := by kernel_rfl
theorem F51t_run : F51t.Run E51t [] [] 20 g51t := by intro y; obtain ⟨a0, ⟨⟩⟩ := y; kernel_rfl
theorem F51t_okc : okCodeL (bodyOf EM 51) = true := by kernel_rfl
theorem F51t_ok : F51t.OK EM := FnS.law (tab := []) (un := []) mixed rfl tab51t_ok (by show LPs _ _ _ (loopsU [] (bodyOf EM 51)); rw [F51t_loops]; exact trivial) F51t_okc (fun _ => rfl) F51t_run
noncomputable def tab51n : Tab := []
theorem tab51n_ok : TabOK EM tab51n := trivial
noncomputable abbrev E51n : Env := EM.withN (natT tab51n)
noncomputable def g51n : (Unit) → Tr (List (List PC) × Unit) := fun y => match y with
 | (()) =>
 .ret ([], ())
noncomputable def F51n : FnS where
  f := 51
  ss := [SS.one (CS.p PS.nil)]
  hs := []
  rs := [(PS.sl 2)]
  ro := [HT.lst]
  val := fun x => (g51n x).val
theorem F51n_loops : loopsU [] (bodyOf EM 51) = [] := by kernel_rfl
theorem F51n_run : F51n.Run E51n [] [] 20 g51n := by intro y; obtain ⟨⟨⟩⟩ := y; kernel_rfl
theorem F51n_okc : okCodeL (bodyOf EM 51) = true := by kernel_rfl
theorem F51n_ok : F51n.OK EM := FnS.law (tab := []) (un := []) mixed rfl tab51n_ok (by show LPs _ _ _ (loopsU [] (bodyOf EM 51)); rw [F51n_loops]; exact trivial) F51n_okc (fun _ => rfl) F51n_run
noncomputable def P51n : FnP where
  f := 51
  ss := [SS.one (CS.p PS.nil)]
  hs := []
  rs := [(PS.sl 2)]
  ro := [HT.lst]
  pre := fun _ => none
  res := fun x => (g51n x).get (HTup.d [HT.lst])
theorem P51n_ok : P51n.OK EM := F51n_ok.total (fun _ => none) (fun x => (g51n x).get (HTup.d [HT.lst])) (fun y _ => by obtain ⟨⟨⟩⟩ := y; exact Tr.get_val (t := g51n (())) (by kernel_rfl) _)
end Go.Ev

namespace Go.Ev
open Go Go.Proofs
set_option maxRecDepth 100000

def slV (s : Nat) (nn : Bool) (es : List (List PC)) : AV := .s (.one (.p (.sl s nn es)))
def iP (n : Int) : PC := .v (.int .i64 n)
def bP (b : Bool) : PC := .v (.bool b)
def minI (x y : Int) : Int := if y < x then y else x
def maxI (x y : Int) : Int := if y > x then y else x
def wthn (x y : Int) : Bool := cond (decide (minI x y ≥ -16777216)) (decide (maxI x y ≤ 16777216)) false
theorem within110' (x y : Int) : fnV EM 10 110 [.pagg [iP x, iP y]] = cond (decide (minI x y ≥ -16777216)) (decR (rks EM 110) [bP (decide (maxI x y ≤ 16777216))]) (decR (rks EM 110) [bP false]) := by kernel_rfl
theorem within110 (x y : Int) : fnV EM 10 110 [.pagg [iP x, iP y]] = decR (rks EM 110) [bP (wthn x y)] := by
  rw [within110']; unfold wthn; cases decide (minI x y ≥ -16777216) <;> rfl
def usedI (k : Int) : Int := cond (k == 1) 1 (cond (k == 2) 1 (cond (k == 3) 2 (cond (k == 4) 3 0)))
theorem used108' (k : Int) : fnV EM 10 108 [i64 k] = cond (k == 1) (cond (k == 1) (decR (rks EM 108) [iP 1]) (cond (k == 3) (decR (rks EM 108) [iP 2]) (cond (k == 4) (decR (rks EM 108) [iP 3]) (decR (rks EM 108) [iP 0])))) (cond (k == 2) (decR (rks EM 108) [iP 1]) (cond (k == 3) (decR (rks EM 108) [iP 2]) (cond (k == 4) (decR (rks EM 108) [iP 3]) (decR (rks EM 108) [iP 0])))) := by kernel_rfl
theorem used108 (k : Int) : fnV EM 10 108 [i64 k] = decR (rks EM 108) [iP (usedI k)] := by
  rw [used108']; unfold usedI; cases k == 1 <;> cases k == 2 <;> cases k == 3 <;> cases k == 4 <;> rfl
def nat107 (f : FuncId) (args : List SV) : Option (Option Bool × List PC) :=
  if f = 110 then (match args with | [.pagg [.v (.int .i64 x), .v (.int .i64 y)]] => some (none, [bP (wthn x y)]) | _ => none)
  else if f = 108 then (match args with | [.one (.p (.v (.int .i64 k)))] => some (none, [iP (usedI k)]) | _ => none)
  else none
noncomputable def E107 : Env := envOf nat107 [] true
def kv107 (nn : Bool) (es : List (List PC)) (i : Int) : List (Nat × AV) := [(0, slV 7 nn es), (2, ints .i64 0), (10, slV 7 nn es), (11, ints .i64 es.length), (12, ints .i64 i)]
def R107 (n : Int) : Option (X × St) := some (.ret, ⟨build 64 [(2, ints .i64 n)], []⟩)
def bad107 (k c x y : Int) : Bool := cond (!wthn x y) true (cond (decide (c ≥ usedI k)) (!((x == 0) && (y == 0))) false)
abbrev K7 : List Kind := [.int .i64, .int .i64, .int .i64, .int .i64, .int .i64, .int .i64, .int .i64]
def kindBad (k : Int) : Bool := cond (decide (k < 1)) true (decide (k > 5))
def neOne (k : Int) : Bool := k != 1
def isFive (k : Int) : Bool := k == 5
def seg107 (k x0 y0 x1 y1 x2 y2 : Int) (rest : Option (X × St)) : Option (X × St) :=
  cond (kindBad k) (R107 8) (cond (bad107 k 0 x0 y0) (R107 2) (cond (bad107 k 1 x1 y1) (R107 2) (cond (bad107 k 2 x2 y2) (R107 2) rest)))
theorem round107 (nn : Bool) (es : List (List PC)) (i : Int) :
    evJ E107 noJ 10 (X × St) (loopAt E107 107 0) ⟨build 64 (kv107 nn es i), []⟩ (afterR 0 [0, 2, 10, 11, 12] [2]) =
    cond (decide (i < (es.length : Int))) (cond (decide (0 ≤ i)) ((es[i.toNat]?).bind fun e => (decs K7 ((e.drop 0).take 7)).bind fun t =>
      seg107 t.1 t.2.1 t.2.2.1 t.2.2.2.1 t.2.2.2.2.1 t.2.2.2.2.2.1 t.2.2.2.2.2.2.1
        (cond (neOne t.1) (cond (i == 0) (R107 24) (cond (decide (0 ≤ IntKind.i64.wrap (i - 1))) ((es[(IntKind.i64.wrap (i - 1)).toNat]?).bind fun e2 => (decs [.int .i64] ((e2.drop 0).take 1)).bind fun t2 =>
          cond (isFive t2.1) (R107 24) (some (.normal, ⟨build 64 (kv107 nn es (IntKind.i64.wrap (i + 1))), []⟩))) none)) (some (.normal, ⟨build 64 (kv107 nn es (IntKind.i64.wrap (i + 1))), []⟩)))) none)
      (some (.exit 0, ⟨build 64 [(2, ints .i64 0)], []⟩)) := by kernel_rfl
end Go.Ev

namespace Go.Ev
open Go Go.Proofs
set_option maxRecDepth 100000

theorem natOK_none {cut : List Nat} {merge : Bool} : NatOK (envOf (fun _ _ => none) cut merge) := fun f ag c cs r h => by cases h
theorem nat107_ok : NatOK E107 := NatOK.of fun f ag c cs h hpre => by
  clear hpre
  have h' : nat107 f ag = some (c, cs) := h
  unfold nat107 at h'
  split at h'
  · next hf =>
    subst hf
    split at h'
    · next x y =>
      cases h'
      exact law_of (E := EM) mixed natOK_none (within110 x y)
    · cases h'
  · split at h'
    · next hf =>
      subst hf
      split at h'
      · next k =>
        cases h'
        exact law_of (E := EM) mixed natOK_none (used108 k)
      · cases h'
    · cases h'

/-- What path.Check answers: the error of the first segment that is not right. -/
def orderErr (prev : Option Int) : Option Int := match prev with | none => some 24 | some p => cond (isFive p) (some 24) none
def segErr (t : Tup K7) (prev : Option Int) : Option Int :=
  let k : Int := t.1
  cond (kindBad k) (some 8) (cond (bad107 k 0 t.2.1 t.2.2.1) (some 2) (cond (bad107 k 1 t.2.2.2.1 t.2.2.2.2.1) (some 2) (cond (bad107 k 2 t.2.2.2.2.2.1 t.2.2.2.2.2.2.1) (some 2)
    (cond (neOne k) (orderErr prev) none))))
def pathGo : List (List PC) → Option Int → Option (Option Int)
  | [], _ => some none
  | e :: rest, prev => (decs K7 (e.take 7)).bind fun t => match segErr t prev with
    | some c => some (some c)
    | none => pathGo rest (some t.1)
def fin107 (c : Option Int) : X × St := match c with
  | none => (.exit 0, ⟨build 64 [(2, ints .i64 0)], []⟩)
  | some c => (.ret, ⟨build 64 [(2, ints .i64 c)], []⟩)

theorem wrap_id {n : Int} (h0 : -9223372036854775808 ≤ n) (h1 : n ≤ 9223372036854775807) : IntKind.i64.wrap n = n := by
  show (let m := n % (2 ^ 64 : Int); if true && decide (m ≥ (2 ^ (64 - 1) : Int)) then m - (2 ^ 64 : Int) else m) = n
  have h2 : (2 ^ 64 : Int) = 18446744073709551616 := rfl
  have h3 : (2 ^ (64 - 1) : Int) = 9223372036854775808 := rfl
  simp only [h2, h3, Bool.true_and, decide_eq_true_eq]
  split <;> omega

theorem decs_first {e : List PC} {t : Tup K7} (h : decs K7 (e.take 7) = some t) : decs [.int .i64] (e.take 1) = some (t.1, ()) := by
  cases e with
  | nil => cases h
  | cons c cs =>
    simp only [List.take_succ_cons, decs, Option.bind_eq_some_iff] at h
    obtain ⟨x, hx, y, hy, h⟩ := h
    cases h
    simp only [List.take_succ_cons, List.take_zero, decs, hx, Option.bind_some] <;> rfl

/-- The element that stands before. -/
def prevOf (pre : List (List PC)) : Option (Option Int) := match pre.getLast? with
  | none => some none
  | some e => (decs K7 (e.take 7)).map fun t => some t.1

theorem path_loop (nn : Bool) (es : List (List PC)) (hlen : es.length ≤ 1000000) : ∀ (rest pre : List (List PC)) (prev c : Option Int), es = pre ++ rest → prevOf pre = some prev → pathGo rest prev = some c →
    CodeTo E107 (.loop (loopAt E107 107 0)) ⟨build 64 (kv107 nn es pre.length), []⟩ (fin107 c).1 (fin107 c).2 := by
  intro rest
  induction rest with
  | nil =>
    intro pre prev c he hp hg
    cases hg
    refine CodeTo.stop (round_to (J := noJ) (n := 10) (m := 0) (keep := [0, 2, 10, 11, 12]) (fin := [2]) mixed nat107_ok noJ_ok rfl ?_) (by simp [fin107])
    rw [round107]
    have : decide ((pre.length : Int) < (es.length : Int)) = false := by rw [decide_eq_false_iff_not, he]; simp
    rw [this]; rfl
  | cons e rest ih =>
    intro pre prev c he hp hg
    have hl : pre.length < es.length := by rw [he]; simp
    have e1 : decide ((pre.length : Int) < (es.length : Int)) = true := by rw [decide_eq_true_iff]; omega
    have e2 : decide ((0 : Int) ≤ (pre.length : Int)) = true := by rw [decide_eq_true_iff]; omega
    have e3 : es[(pre.length : Int).toNat]? = some e := by rw [he]; simp
    have e4 : IntKind.i64.wrap ((pre.length : Int) + 1) = ((pre ++ [e]).length : Int) := by rw [wrap_id (by omega) (by omega)]; simp
    simp only [pathGo, Option.bind_eq_some_iff] at hg
    obtain ⟨t, ht, hg⟩ := hg
    have hround := round107 nn es pre.length
    rw [e1, e2, e3] at hround
    simp only [cond_true, Option.bind_some, List.drop_zero, ht, e4] at hround
    have hret : ∀ n : Int, segErr t prev = some n → evJ E107 noJ 10 (X × St) (loopAt E107 107 0) ⟨build 64 (kv107 nn es pre.length), []⟩ (afterR 0 [0, 2, 10, 11, 12] [2]) = R107 n →
        CodeTo E107 (.loop (loopAt E107 107 0)) ⟨build 64 (kv107 nn es pre.length), []⟩ (fin107 c).1 (fin107 c).2 := by
      intro n hs hr
      rw [hs] at hg
      cases hg
      exact CodeTo.stop (round_to (J := noJ) (n := 10) (m := 0) (keep := [0, 2, 10, 11, 12]) (fin := [2]) mixed nat107_ok noJ_ok rfl hr) (by simp [fin107])
    have hnext : segErr t prev = none → evJ E107 noJ 10 (X × St) (loopAt E107 107 0) ⟨build 64 (kv107 nn es pre.length), []⟩ (afterR 0 [0, 2, 10, 11, 12] [2]) = some (.normal, ⟨build 64 (kv107 nn es (pre ++ [e]).length), []⟩) →
        CodeTo E107 (.loop (loopAt E107 107 0)) ⟨build 64 (kv107 nn es pre.length), []⟩ (fin107 c).1 (fin107 c).2 := by
      intro hs hr
      rw [hs] at hg
      refine CodeTo.next (round_to (J := noJ) (n := 10) (m := 0) (keep := [0, 2, 10, 11, 12]) (fin := [2]) mixed nat107_ok noJ_ok rfl hr) ?_
      exact ih (pre ++ [e]) (some t.1) c (by rw [he]; simp) (by simp [prevOf, ht]) hg
    have hse : segErr t prev = @cond (Option Int) (kindBad t.1) (some 8) (cond (bad107 t.1 0 t.2.1 t.2.2.1) (some 2) (cond (bad107 t.1 1 t.2.2.2.1 t.2.2.2.2.1) (some 2) (cond (bad107 t.1 2 t.2.2.2.2.2.1 t.2.2.2.2.2.2.1) (some 2)
      (cond (neOne t.1) (orderErr prev) none)))) := rfl
    unfold seg107 at hround
    rw [hse] at hret hnext
    cases h1 : kindBad t.1 with
    | true => rw [h1] at hround hret; exact hret 8 rfl hround
    | false =>
      rw [h1] at hround hret hnext
      cases h2 : bad107 t.1 0 t.2.1 t.2.2.1 with
      | true => rw [h2] at hround hret; exact hret 2 rfl hround
      | false =>
        rw [h2] at hround hret hnext
        cases h3 : bad107 t.1 1 t.2.2.2.1 t.2.2.2.2.1 with
        | true => rw [h3] at hround hret; exact hret 2 rfl hround
        | false =>
          rw [h3] at hround hret hnext
          cases h4 : bad107 t.1 2 t.2.2.2.2.2.1 t.2.2.2.2.2.2.1 with
          | true => rw [h4] at hround hret; exact hret 2 rfl hround
          | false =>
            rw [h4] at hround hret hnext
            cases h5 : neOne t.1 with
            | false => rw [h5] at hround hnext; exact hnext rfl hround
            | true =>
              rw [h5] at hround hret hnext
              simp only [cond_true, cond_false] at hround hret hnext
              cases hpl : pre.getLast? with
              | none =>
                have hpre : pre = [] := List.getLast?_eq_none_iff.1 hpl
                simp only [prevOf, hpl] at hp
                cases hp
                have h0 : ((pre.length : Int) == 0) = true := by rw [hpre]; rfl
                rw [h0] at hround
                exact hret 24 rfl hround
              | some ep =>
                obtain ⟨q, hq⟩ : ∃ q, pre = q ++ [ep] := List.getLast?_eq_some_iff.1 hpl
                have h0 : ((pre.length : Int) == 0) = false := by rw [beq_eq_false_iff_ne, hq]; simp; omega
                have hw : IntKind.i64.wrap ((pre.length : Int) - 1) = (q.length : Int) := by rw [wrap_id (by omega) (by omega), hq]; simp
                have hq0 : decide ((0 : Int) ≤ (q.length : Int)) = true := by rw [decide_eq_true_iff]; omega
                have hqe : es[((q.length : Nat) : Int).toNat]? = some ep := by rw [he, hq]; simp
                simp only [prevOf, hpl, Option.map_eq_some_iff] at hp
                obtain ⟨t2, ht2, rfl⟩ := hp
                rw [h0, hw, hq0, hqe] at hround
                simp only [cond_true, cond_false, Option.bind_some, decs_first ht2] at hround
                have hround2 : evJ E107 noJ 10 (X × St) (loopAt E107 107 0) ⟨build 64 (kv107 nn es pre.length), []⟩ (afterR 0 [0, 2, 10, 11, 12] [2]) = cond (isFive t2.1) (R107 24) (some (.normal, ⟨build 64 (kv107 nn es (pre ++ [e]).length), []⟩)) := hround
                cases h6 : isFive t2.1 with
                | true => exact hret 24 (by simp only [orderErr, h6, cond_true]) (hround2.trans (by rw [h6]; rfl))
                | false => exact hnext (by simp only [orderErr, h6, cond_false]) (hround2.trans (by rw [h6]; rfl))

noncomputable def J107 (nn : Bool) (es : List (List PC)) (c : Option Int) : Nat → Option Jmp := fun key => cond (Nat.beq key 4) (some ⟨[0, 2, 10, 11, 12], ⟨build 64 (kv107 nn es 0), []⟩, (fin107 c).1, (fin107 c).2⟩) none
theorem loops107 : loopsOf (bodyOf E107 107) = [loopAt E107 107 0] := by kernel_rfl
theorem key107 : loopKey (loopAt E107 107 0) = 4 := by kernel_rfl
def code107 (es : List (List PC)) (c : Option Int) : Int := cond (decide ((es.length : Int) > 128)) 3 (c.getD 0)
theorem run107 (nn : Bool) (es : List (List PC)) (c : Option Int) : fnJ E107 (J107 nn es c) 10 107 [.one (.p (.sl 7 nn es))] = cond (decide ((es.length : Int) > 128)) (decR (rks E107 107) [iP 3])
    (@ite _ ((⟨build 64 (kv107 nn es 0), []⟩ : St) = ⟨build 64 (kv107 nn es 0), []⟩) (Classical.propDecidable _) (match c with | none => decR (rks E107 107) [iP 0] | some c => decR (rks E107 107) [iP c]) none) := by
  cases c with
  | none => kernel_rfl
  | some c => kernel_rfl
/-- A jump that no state takes. -/
def jmpNo : Jmp := ⟨[], ⟨[.s (.one (.bp 0 0))], []⟩, .ret, ⟨[.s .dead], []⟩⟩
theorem jmpNo_ok {E : Env} {c : Code} : CodeTo E c jmpNo.s0 jmpNo.e jmpNo.s1 := by
  refine ⟨rfl, fun κ R a w hr => ?_⟩
  exfalso
  have hs : a.tmps.size = 1 := hr.size
  have hv := hr.tmps 0 a.tmps[0] (by simp [hs])
  have hv' : CRep κ R (hget []) w (.bp 0 0) a.tmps[0] := hv
  generalize a.tmps[0] = y at hv'
  cases hv' with
  | bpDead slot off a h => simp [hget] at h
  | bp slot off b o s h _ => simp [hget, Ob.stride] at h
theorem run107no (nn : Bool) (es : List (List PC)) : fnJ E107 (fun _ => some jmpNo) 10 107 [.one (.p (.sl 7 nn es))] = cond (decide ((es.length : Int) > 128)) (decR (rks E107 107) [iP 3])
    (@ite _ ((⟨build 64 [], []⟩ : St) = jmpNo.s0) (Classical.propDecidable _) none none) := by kernel_rfl
/-- path.Check. -/
theorem check107 (nn : Bool) (es : List (List PC)) (c : Option Int) (hc : es.length ≤ 128 → pathGo es none = some c) : Law E107 107 [.one (.p (.sl 7 nn es))] [iP (code107 es c)] := by
  intro r hr
  by_cases hl : es.length ≤ 128
  · refine fnJ_sim (J := J107 nn es c) (n := 10) mixed nat107_ok (fun c' hc' j hj => ?_) ?_
    · rw [loops107] at hc'
      obtain rfl := List.mem_singleton.1 hc'
      unfold J107 at hj
      rw [key107] at hj
      cases hj
      exact path_loop nn es (by omega) es [] none c rfl rfl (hc hl)
    · rw [run107]
      have : decide ((es.length : Int) > 128) = false := by rw [decide_eq_false_iff_not]; omega
      rw [this, cond_false, if_pos rfl, ← hr]
      unfold code107
      rw [this]
      cases c <;> rfl
  · refine fnJ_sim (J := fun _ => some jmpNo) (n := 10) mixed nat107_ok (fun c' _ j hj => by cases hj; exact jmpNo_ok) ?_
    rw [run107no]
    have : decide ((es.length : Int) > 128) = true := by rw [decide_eq_true_iff]; omega
    rw [this, cond_true, ← hr]
    unfold code107
    rw [this]; rfl
end Go.Ev

namespace Go.Ev
open Go Go.Proofs
set_option maxRecDepth 100000

/-- Elements are compared. -/
noncomputable def eqV (ks : List Kind) (ty : TypeId) (t t' : Tup ks) : Bool := (eqT Tryz.prog 8 ty (encs ks t) (encs ks t')).getD false
noncomputable def cmpE (ks : List Kind) (ty : TypeId) (n : Nat) (e e' : List PC) : Option Bool := (decs ks (e.take n)).bind fun t => (decs ks (e'.take n)).bind fun t' => some (eqV ks ty t t')
def eqGo (cmp : List PC → List PC → Option Bool) : List (List PC) → List (List PC) → Option Bool
  | [], [] => some true
  | x :: xs, y :: ys => (cmp x y).bind fun r => cond r (eqGo cmp xs ys) (some false)
  | _, _ => none

def kvEq (s : Nat) (na nb : Bool) (a b : List (List PC)) (i : Int) : List (Nat × AV) := [(0, slV s na a), (1, slV s nb b), (4, boolV false), (12, ints .i64 a.length), (13, ints .i64 i)]
def finEq (r : Bool) : X × St := cond r (.exit 0, ⟨build 26 [(4, boolV false)], []⟩) (.ret, ⟨build 26 [(4, boolV false)], []⟩)
noncomputable def rhsEq (s : Nat) (ks : List Kind) (ty : TypeId) (na nb : Bool) (a b : List (List PC)) (i : Int) : Option (X × St) :=
  cond (decide (i < (a.length : Int))) (cond (decide (0 ≤ i)) ((a[i.toNat]?).bind fun e => (decs ks ((e.drop 0).take s)).bind fun t => cond (decide (0 ≤ i)) ((b[i.toNat]?).bind fun e' => (decs ks ((e'.drop 0).take s)).bind fun t' =>
    cond (!eqV ks ty t t') (some (finEq false)) (some (.normal, ⟨build 26 (kvEq s na nb a b (IntKind.i64.wrap (i + 1))), []⟩))) none) none) (some (finEq true))
def RoundEq (f : FuncId) (s : Nat) (ks : List Kind) (ty : TypeId) : Prop := ∀ (na nb : Bool) (a b : List (List PC)) (i : Int),
  evJ EM noJ 10 (X × St) (loopAt EM f 0) ⟨build 26 (kvEq s na nb a b i), []⟩ (afterR 0 [0, 1, 4, 12, 13] [4]) = rhsEq s ks ty na nb a b i
abbrev kI (n : Nat) : List Kind := List.replicate n (.int .i64)
theorem roundEq36 : RoundEq 36 1 (kI 1) 3 := by intro na nb a b i; kernel_rfl
theorem roundEq37 : RoundEq 37 5 (kI 5) 57 := by intro na nb a b i; kernel_rfl
theorem roundEq38 : RoundEq 38 7 (kI 7) 62 := by intro na nb a b i; kernel_rfl
theorem roundEq39 : RoundEq 39 4 (kI 4) 31 := by intro na nb a b i; kernel_rfl
theorem roundEq40 : RoundEq 40 2 (kI 2) 59 := by intro na nb a b i; kernel_rfl

theorem natOK_EM : NatOK EM := fun f ag c cs r h => by cases h
theorem eq_loop {f : FuncId} {s : Nat} {ks : List Kind} {ty : TypeId} (hR : RoundEq f s ks ty) (na nb : Bool) (a b : List (List PC)) (hlen : a.length ≤ 9223372036854775807) (r : Bool) :
    ∀ (ra rb pa pb : List (List PC)), a = pa ++ ra → b = pb ++ rb → pa.length = pb.length → eqGo (cmpE ks ty s) ra rb = some r →
    CodeTo EM (.loop (loopAt EM f 0)) ⟨build 26 (kvEq s na nb a b pa.length), []⟩ (finEq r).1 (finEq r).2 := by
  intro ra
  induction ra with
  | nil =>
    intro rb pa pb ha hb hp hg
    cases rb with
    | cons y ys => cases hg
    | nil =>
      cases hg
      refine CodeTo.stop (round_to (J := noJ) (n := 10) (m := 0) (keep := [0, 1, 4, 12, 13]) (fin := [4]) mixed natOK_EM noJ_ok rfl ?_) (by simp [finEq])
      rw [hR na nb a b]
      unfold rhsEq
      have : decide ((pa.length : Int) < (a.length : Int)) = false := by rw [decide_eq_false_iff_not, ha]; simp
      rw [this]; rfl
  | cons x xs ih =>
    intro rb pa pb ha hb hp hg
    cases rb with
    | nil => cases hg
    | cons y ys =>
      simp only [eqGo, Option.bind_eq_some_iff] at hg
      obtain ⟨q, hq, hg⟩ := hg
      simp only [cmpE, Option.bind_eq_some_iff] at hq
      obtain ⟨t, ht, t', ht', hq⟩ := hq
      have hl : pa.length < a.length := by rw [ha]; simp
      have e1 : decide ((pa.length : Int) < (a.length : Int)) = true := by rw [decide_eq_true_iff]; omega
      have e2 : decide ((0 : Int) ≤ (pa.length : Int)) = true := by rw [decide_eq_true_iff]; omega
      have e3 : a[(pa.length : Int).toNat]? = some x := by rw [ha]; simp
      have e3' : b[(pa.length : Int).toNat]? = some y := by rw [hb, hp]; simp
      have e4 : IntKind.i64.wrap ((pa.length : Int) + 1) = ((pa ++ [x]).length : Int) := by rw [wrap_id (by omega) (by omega)]; simp
      have hround := hR na nb a b pa.length
      unfold rhsEq at hround
      rw [e1, e2, e3, e3', e4] at hround
      simp only [cond_true, Option.bind_some, List.drop_zero, ht, ht'] at hround
      cases hv : eqV ks ty t t' with
      | false =>
        rw [hv] at hround hq
        cases hq
        cases hg
        exact CodeTo.stop (round_to (J := noJ) (n := 10) (m := 0) (keep := [0, 1, 4, 12, 13]) (fin := [4]) mixed natOK_EM noJ_ok rfl hround) (by simp [finEq])
      | true =>
        rw [hv] at hround hq
        cases hq
        exact CodeTo.next (round_to (J := noJ) (n := 10) (m := 0) (keep := [0, 1, 4, 12, 13]) (fin := [4]) mixed natOK_EM noJ_ok rfl hround)
          (ih ys (pa ++ [x]) (pb ++ [y]) (by rw [ha]; simp) (by rw [hb]; simp) (by simp [hp]) hg)

noncomputable def JEq (s : Nat) (na nb : Bool) (a b : List (List PC)) (r : Bool) : Nat → Option Jmp := fun key => cond (Nat.beq key 4) (some ⟨[0, 1, 4, 12, 13], ⟨build 26 (kvEq s na nb a b 0), []⟩, (finEq r).1, (finEq r).2⟩) none
def LoopsEq (f : FuncId) : Prop := loopsOf (bodyOf EM f) = [loopAt EM f 0] ∧ loopKey (loopAt EM f 0) = 4
def RunEq (f : FuncId) (s : Nat) : Prop := ∀ (na nb : Bool) (a b : List (List PC)) (r : Bool), fnJ EM (JEq s na nb a b r) 10 f [.one (.p (.sl s na a)), .one (.p (.sl s nb b))] =
  cond (@bne Int _ a.length b.length) (decR (rks EM f) [bP false]) (@ite _ ((⟨build 26 (kvEq s na nb a b 0), []⟩ : St) = ⟨build 26 (kvEq s na nb a b 0), []⟩) (Classical.propDecidable _) (cond r (decR (rks EM f) [bP true]) (decR (rks EM f) [bP false])) none)
def RunEqNo (f : FuncId) (s : Nat) : Prop := ∀ (na nb : Bool) (a b : List (List PC)), fnJ EM (fun _ => some jmpNo) 10 f [.one (.p (.sl s na a)), .one (.p (.sl s nb b))] =
  cond (@bne Int _ a.length b.length) (decR (rks EM f) [bP false]) (@ite _ ((⟨build 26 [], []⟩ : St) = jmpNo.s0) (Classical.propDecidable _) none none)
/-- Whether two lists are equal. -/
noncomputable def eqL (ks : List Kind) (ty : TypeId) (s : Nat) (a b : List (List PC)) : Bool := cond (@bne Int _ a.length b.length) false ((eqGo (cmpE ks ty s) a b).getD false)
noncomputable def okEq (ks : List Kind) (ty : TypeId) (s : Nat) (a b : List (List PC)) : Bool := cond (@bne Int _ a.length b.length) true (eqGo (cmpE ks ty s) a b).isSome
theorem eq_law {f : FuncId} {s : Nat} {ks : List Kind} {ty : TypeId} (hR : RoundEq f s ks ty) (hL : LoopsEq f) (hX : RunEq f s) (hN : RunEqNo f s) (na nb : Bool) (a b : List (List PC)) (hlen : a.length ≤ 9223372036854775807)
    (hok : okEq ks ty s a b = true) : Law EM f [.one (.p (.sl s na a)), .one (.p (.sl s nb b))] [bP (eqL ks ty s a b)] := by
  intro r hr
  unfold okEq at hok
  unfold eqL at hr
  cases hb : @bne Int _ a.length b.length with
  | true =>
    refine fnJ_sim (J := fun _ => some jmpNo) (n := 10) mixed natOK_EM (fun c' _ j hj => by cases hj; exact jmpNo_ok) ?_
    rw [hN na nb a b, ← hr, hb]
    rfl
  | false =>
    rw [hb] at hok hr
    obtain ⟨q, hq⟩ := Option.isSome_iff_exists.1 hok
    refine fnJ_sim (J := JEq s na nb a b q) (n := 10) mixed natOK_EM (fun c' hc' j hj => ?_) ?_
    · rw [hL.1] at hc'
      obtain rfl := List.mem_singleton.1 hc'
      unfold JEq at hj
      rw [hL.2] at hj
      cases hj
      exact eq_loop hR na nb a b hlen q a b [] [] rfl rfl rfl hq
    · rw [hX na nb a b q, hb, ← hr, hq, cond_false, if_pos rfl]
      cases q <;> rfl
theorem loopsEq36 : LoopsEq 36 := ⟨by kernel_rfl, by kernel_rfl⟩
theorem loopsEq37 : LoopsEq 37 := ⟨by kernel_rfl, by kernel_rfl⟩
theorem loopsEq38 : LoopsEq 38 := ⟨by kernel_rfl, by kernel_rfl⟩
theorem loopsEq39 : LoopsEq 39 := ⟨by kernel_rfl, by kernel_rfl⟩
theorem loopsEq40 : LoopsEq 40 := ⟨by kernel_rfl, by kernel_rfl⟩
theorem runEq36 : RunEq 36 1 := by intro na nb a b r; cases r <;> kernel_rfl
theorem runEq37 : RunEq 37 5 := by intro na nb a b r; cases r <;> kernel_rfl
theorem runEq38 : RunEq 38 7 := by intro na nb a b r; cases r <;> kernel_rfl
theorem runEq39 : RunEq 39 4 := by intro na nb a b r; cases r <;> kernel_rfl
theorem runEq40 : RunEq 40 2 := by intro na nb a b r; cases r <;> kernel_rfl
theorem runEqNo36 : RunEqNo 36 1 := by intro na nb a b; kernel_rfl
theorem runEqNo37 : RunEqNo 37 5 := by intro na nb a b; kernel_rfl
theorem runEqNo38 : RunEqNo 38 7 := by intro na nb a b; kernel_rfl
theorem runEqNo39 : RunEqNo 39 4 := by intro na nb a b; kernel_rfl
theorem runEqNo40 : RunEqNo 40 2 := by intro na nb a b; kernel_rfl
end Go.Ev

namespace Go.Ev
open Go Go.Proofs
set_option maxRecDepth 100000

/-- A round that compares two elements. -/
noncomputable def rhsC (s : Nat) (ks : List Kind) (ty : TypeId) (a b : List (List PC)) (S : Int → St) (T F : X × St) (i : Int) : Option (X × St) :=
  cond (decide (i < (a.length : Int))) (cond (decide (0 ≤ i)) ((a[i.toNat]?).bind fun e => (decs ks ((e.drop 0).take s)).bind fun t => cond (decide (0 ≤ i)) ((b[i.toNat]?).bind fun e' => (decs ks ((e'.drop 0).take s)).bind fun t' =>
    cond (!eqV ks ty t t') (some F) (some (.normal, S (IntKind.i64.wrap (i + 1))))) none) none) (some T)
theorem cmp_loop {E : Env} (hmx : E.P.follows .mixedOrders = true) (hnat : NatOK E) {c : Code} {S : Int → St} {T F : X × St} {m : Nat} {keep fin : List Nat} (hm : ∀ i, (S i).heap.length = m) (hT : T.1 ≠ .normal) (hF : F.1 ≠ .normal)
    {s : Nat} {ks : List Kind} {ty : TypeId} {a b : List (List PC)} (hR : ∀ i, evJ E noJ 10 (X × St) c (S i) (afterR m keep fin) = rhsC s ks ty a b S T F i) (hlen : a.length ≤ 9223372036854775807) (r : Bool) :
    ∀ (ra rb pa pb : List (List PC)), a = pa ++ ra → b = pb ++ rb → pa.length = pb.length → eqGo (cmpE ks ty s) ra rb = some r →
    CodeTo E (.loop c) (S pa.length) (cond r T F).1 (cond r T F).2 := by
  intro ra
  induction ra with
  | nil =>
    intro rb pa pb ha hb hp hg
    cases rb with
    | cons y ys => cases hg
    | nil =>
      cases hg
      refine CodeTo.stop (round_to (J := noJ) (n := 10) (m := m) (keep := keep) (fin := fin) hmx hnat noJ_ok (hm _) ?_) hT
      rw [hR]
      unfold rhsC
      have : decide ((pa.length : Int) < (a.length : Int)) = false := by rw [decide_eq_false_iff_not, ha]; simp
      rw [this]; rfl
  | cons x xs ih =>
    intro rb pa pb ha hb hp hg
    cases rb with
    | nil => cases hg
    | cons y ys =>
      simp only [eqGo, Option.bind_eq_some_iff] at hg
      obtain ⟨q, hq, hg⟩ := hg
      simp only [cmpE, Option.bind_eq_some_iff] at hq
      obtain ⟨t, ht, t', ht', hq⟩ := hq
      have hl : pa.length < a.length := by rw [ha]; simp
      have e1 : decide ((pa.length : Int) < (a.length : Int)) = true := by rw [decide_eq_true_iff]; omega
      have e2 : decide ((0 : Int) ≤ (pa.length : Int)) = true := by rw [decide_eq_true_iff]; omega
      have e3 : a[(pa.length : Int).toNat]? = some x := by rw [ha]; simp
      have e3' : b[(pa.length : Int).toNat]? = some y := by rw [hb, hp]; simp
      have e4 : IntKind.i64.wrap ((pa.length : Int) + 1) = ((pa ++ [x]).length : Int) := by rw [wrap_id (by omega) (by omega)]; simp
      have hround := hR pa.length
      unfold rhsC at hround
      rw [e1, e2, e3, e3', e4] at hround
      simp only [cond_true, Option.bind_some, List.drop_zero, ht, ht'] at hround
      cases hv : eqV ks ty t t' with
      | false =>
        rw [hv] at hround hq
        cases hq
        cases hg
        exact CodeTo.stop (round_to (J := noJ) (n := 10) (m := m) (keep := keep) (fin := fin) hmx hnat noJ_ok (hm _) hround) hF
      | true =>
        rw [hv] at hround hq
        cases hq
        exact CodeTo.next (round_to (J := noJ) (n := 10) (m := m) (keep := keep) (fin := fin) hmx hnat noJ_ok (hm _) hround)
          (ih ys (pa ++ [x]) (pb ++ [y]) (by rw [ha]; simp) (by rw [hb]; simp) (by simp [hp]) hg)

/-- Lists. -/
def stR (s : Nat) (na nb : Bool) (a b : List (List PC)) (i : Int) : St := ⟨build 26 [(0, slV s na a), (1, slV s nb b), (4, boolV false), (5, ints .i64 i)], []⟩
def finR (r : Bool) : X × St := cond r (.exit 0, ⟨build 26 [(4, boolV false)], []⟩) (.ret, ⟨build 26 [(4, boolV false)], []⟩)
def RoundR (f : FuncId) (s : Nat) (ks : List Kind) (ty : TypeId) : Prop := ∀ (na nb : Bool) (a b : List (List PC)) (i : Int),
  evJ EM noJ 10 (X × St) (loopAt EM f 0) (stR s na nb a b i) (afterR 0 [0, 1, 4, 5] [4]) = rhsC s ks ty a b (stR s na nb a b) (finR true) (finR false) i
theorem roundR54 : RoundR 54 1 (kI 1) 3 := by intro na nb a b i; kernel_rfl
theorem roundR56 : RoundR 56 5 (kI 5) 57 := by intro na nb a b i; kernel_rfl
theorem roundR57 : RoundR 57 7 (kI 7) 62 := by intro na nb a b i; kernel_rfl
noncomputable def JR (s : Nat) (na nb : Bool) (a b : List (List PC)) (r : Bool) : Nat → Option Jmp := fun key => cond (Nat.beq key 4) (some ⟨[0, 1, 4, 5], stR s na nb a b 0, (cond r (finR true) (finR false)).1, (cond r (finR true) (finR false)).2⟩) none
def RunR (f : FuncId) (s : Nat) : Prop := ∀ (na nb : Bool) (a b : List (List PC)) (r : Bool), fnJ EM (JR s na nb a b r) 10 f [.one (.p (.sl s na a)), .one (.p (.sl s nb b))] =
  cond (@bne Int _ a.length b.length) (decR (rks EM f) [bP false]) (@ite _ (stR s na nb a b 0 = stR s na nb a b 0) (Classical.propDecidable _) (cond r (decR (rks EM f) [bP true]) (decR (rks EM f) [bP false])) none)
def RunRNo (f : FuncId) (s : Nat) : Prop := ∀ (na nb : Bool) (a b : List (List PC)), fnJ EM (fun _ => some jmpNo) 10 f [.one (.p (.sl s na a)), .one (.p (.sl s nb b))] =
  cond (@bne Int _ a.length b.length) (decR (rks EM f) [bP false]) (@ite _ ((⟨build 26 [], []⟩ : St) = jmpNo.s0) (Classical.propDecidable _) none none)
theorem eqR_law {f : FuncId} {s : Nat} {ks : List Kind} {ty : TypeId} (hR : RoundR f s ks ty) (hL : LoopsEq f) (hX : RunR f s) (hN : RunRNo f s) (na nb : Bool) (a b : List (List PC)) (hlen : a.length ≤ 9223372036854775807)
    (hok : okEq ks ty s a b = true) : Law EM f [.one (.p (.sl s na a)), .one (.p (.sl s nb b))] [bP (eqL ks ty s a b)] := by
  intro r hr
  unfold okEq at hok
  unfold eqL at hr
  cases hb : @bne Int _ a.length b.length with
  | true =>
    refine fnJ_sim (J := fun _ => some jmpNo) (n := 10) mixed natOK_EM (fun c' _ j hj => by cases hj; exact jmpNo_ok) ?_
    rw [hN na nb a b, ← hr, hb]
    rfl
  | false =>
    rw [hb] at hok hr
    obtain ⟨q, hq⟩ := Option.isSome_iff_exists.1 hok
    refine fnJ_sim (J := JR s na nb a b q) (n := 10) mixed natOK_EM (fun c' hc' j hj => ?_) ?_
    · rw [hL.1] at hc'
      obtain rfl := List.mem_singleton.1 hc'
      unfold JR at hj
      rw [hL.2] at hj
      cases hj
      exact cmp_loop (S := stR s na nb a b) (m := 0) mixed natOK_EM (fun _ => rfl) (by simp [finR]) (by simp [finR]) (hR na nb a b) hlen q a b [] [] rfl rfl rfl hq
    · rw [hX na nb a b q, hb, ← hr, hq, cond_false, if_pos rfl]
      cases q <;> rfl
theorem loopsR54 : LoopsEq 54 := ⟨by kernel_rfl, by kernel_rfl⟩
theorem loopsR56 : LoopsEq 56 := ⟨by kernel_rfl, by kernel_rfl⟩
theorem loopsR57 : LoopsEq 57 := ⟨by kernel_rfl, by kernel_rfl⟩
theorem runR54 : RunR 54 1 := by intro na nb a b r; cases r <;> kernel_rfl
theorem runR56 : RunR 56 5 := by intro na nb a b r; cases r <;> kernel_rfl
theorem runR57 : RunR 57 7 := by intro na nb a b r; cases r <;> kernel_rfl
theorem runRNo54 : RunRNo 54 1 := by intro na nb a b; kernel_rfl
theorem runRNo56 : RunRNo 56 5 := by intro na nb a b; kernel_rfl
theorem runRNo57 : RunRNo 57 7 := by intro na nb a b; kernel_rfl

/-- Images. -/
def imgC (w h : Int) (n : Bool) (a : List (List PC)) : List PC := [iP w, iP h, .sl 4 n a]
def stI (w h w' h' : Int) (na nb : Bool) (a b : List (List PC)) (i : Int) : St := ⟨build 45 [(2, .s (.one (.bp 0 0))), (3, .s (.one (.bp 1 0))), (4, boolV false), (5, ints .i64 i)], [.box 3 ((imgC w h na a).map .p), .box 3 ((imgC w' h' nb b).map .p)]⟩
def finI (w h w' h' : Int) (na nb : Bool) (a b : List (List PC)) (r : Bool) : X × St := (cond r (.exit 0) .ret, ⟨build 45 [(4, boolV false)], [.box 3 ((imgC w h na a).map .p), .box 3 ((imgC w' h' nb b).map .p)]⟩)
theorem round55 (w h w' h' : Int) (na nb : Bool) (a b : List (List PC)) (i : Int) :
    evJ EM noJ 10 (X × St) (loopAt EM 55 0) (stI w h w' h' na nb a b i) (afterR 2 [2, 3, 4, 5] [4]) = rhsC 4 (kI 4) 31 a b (stI w h w' h' na nb a b) (finI w h w' h' na nb a b true) (finI w h w' h' na nb a b false) i := by kernel_rfl
/-- Warps. -/
def warpC (w h s : Int) (n : Bool) (a : List (List PC)) : List PC := [iP w, iP h, iP s, .sl 2 n a]
def stW (w h s w' h' s' : Int) (na nb : Bool) (a b : List (List PC)) (i : Int) : St := ⟨build 52 [(2, .s (.one (.bp 0 0))), (3, .s (.one (.bp 1 0))), (4, boolV false), (5, ints .i64 i)], [.box 4 ((warpC w h s na a).map .p), .box 4 ((warpC w' h' s' nb b).map .p)]⟩
def finW (w h s w' h' s' : Int) (na nb : Bool) (a b : List (List PC)) (r : Bool) : X × St := (cond r (.exit 0) .ret, ⟨build 52 [(4, boolV false)], [.box 4 ((warpC w h s na a).map .p), .box 4 ((warpC w' h' s' nb b).map .p)]⟩)
theorem round58 (w h s w' h' s' : Int) (na nb : Bool) (a b : List (List PC)) (i : Int) :
    evJ EM noJ 10 (X × St) (loopAt EM 58 0) (stW w h s w' h' s' na nb a b i) (afterR 2 [2, 3, 4, 5] [4]) = rhsC 2 (kI 2) 59 a b (stW w h s w' h' s' na nb a b) (finW w h s w' h' s' na nb a b true) (finW w h s w' h' s' na nb a b false) i := by kernel_rfl
end Go.Ev

namespace Go.Ev
open Go Go.Proofs
set_option maxRecDepth 100000

def neI (a b : Int) : Bool := a != b
noncomputable def sameImg (w h w' h' : Int) (a b : List (List PC)) : Bool := cond (cond (cond (neI w w') true (neI h h')) true (neI a.length b.length)) false ((eqGo (cmpE (kI 4) 31 4) a b).getD false)
noncomputable def okImg (w h w' h' : Int) (a b : List (List PC)) : Bool := cond (cond (cond (neI w w') true (neI h h')) true (neI a.length b.length)) true (eqGo (cmpE (kI 4) 31 4) a b).isSome
noncomputable def JI (w h w' h' : Int) (na nb : Bool) (a b : List (List PC)) (r : Bool) : Nat → Option Jmp := fun key => cond (Nat.beq key 4) (some ⟨[2, 3, 4, 5], stI w h w' h' na nb a b 0, (finI w h w' h' na nb a b r).1, (finI w h w' h' na nb a b r).2⟩) none
theorem run55 (w h w' h' : Int) (na nb : Bool) (a b : List (List PC)) (r : Bool) : fnJ EM (JI w h w' h' na nb a b r) 10 55 [.pagg (imgC w h na a), .pagg (imgC w' h' nb b)] =
  cond (cond (cond (neI w w') true (neI h h')) true (neI a.length b.length)) (decR (rks EM 55) [bP false]) (@ite _ (stI w h w' h' na nb a b 0 = stI w h w' h' na nb a b 0) (Classical.propDecidable _) (cond r (decR (rks EM 55) [bP true]) (decR (rks EM 55) [bP false])) none) := by cases r <;> kernel_rfl
theorem run55no (w h w' h' : Int) (na nb : Bool) (a b : List (List PC)) : fnJ EM (fun _ => some jmpNo) 10 55 [.pagg (imgC w h na a), .pagg (imgC w' h' nb b)] =
  cond (cond (cond (neI w w') true (neI h h')) true (neI a.length b.length)) (decR (rks EM 55) [bP false]) (@ite _ ((⟨build 45 [], [.box 3 ((imgC w h na a).map .p), .box 3 ((imgC w' h' nb b).map .p)]⟩ : St) = jmpNo.s0) (Classical.propDecidable _) none none) := by kernel_rfl
theorem loops55 : LoopsEq 55 := ⟨by kernel_rfl, by kernel_rfl⟩
theorem law55 (w h w' h' : Int) (na nb : Bool) (a b : List (List PC)) (hlen : a.length ≤ 9223372036854775807) (hok : okImg w h w' h' a b = true) :
    Law EM 55 [.pagg (imgC w h na a), .pagg (imgC w' h' nb b)] [bP (sameImg w h w' h' a b)] := by
  intro r hr
  unfold okImg at hok
  unfold sameImg at hr
  cases hb : cond (cond (neI w w') true (neI h h')) true (neI a.length b.length) with
  | true =>
    refine fnJ_sim (J := fun _ => some jmpNo) (n := 10) mixed natOK_EM (fun c' _ j hj => by cases hj; exact jmpNo_ok) ?_
    rw [run55no, ← hr, hb]
    rfl
  | false =>
    rw [hb] at hok hr
    obtain ⟨q, hq⟩ := Option.isSome_iff_exists.1 hok
    refine fnJ_sim (J := JI w h w' h' na nb a b q) (n := 10) mixed natOK_EM (fun c' hc' j hj => ?_) ?_
    · rw [loops55.1] at hc'
      obtain rfl := List.mem_singleton.1 hc'
      unfold JI at hj
      rw [loops55.2] at hj
      cases hj
      have := cmp_loop (S := stI w h w' h' na nb a b) (m := 2) mixed natOK_EM (fun _ => rfl) (by simp [finI]) (by simp [finI]) (round55 w h w' h' na nb a b) hlen q a b [] [] rfl rfl rfl hq
      cases q <;> exact this
    · rw [run55, hb, ← hr, hq, cond_false, if_pos rfl]
      cases q <;> rfl

noncomputable def sameWrp (w h s w' h' s' : Int) (a b : List (List PC)) : Bool := cond (cond (cond (cond (neI w w') true (neI h h')) true (neI s s')) true (neI a.length b.length)) false ((eqGo (cmpE (kI 2) 59 2) a b).getD false)
noncomputable def okWrp (w h s w' h' s' : Int) (a b : List (List PC)) : Bool := cond (cond (cond (cond (neI w w') true (neI h h')) true (neI s s')) true (neI a.length b.length)) true (eqGo (cmpE (kI 2) 59 2) a b).isSome
noncomputable def JW (w h s w' h' s' : Int) (na nb : Bool) (a b : List (List PC)) (r : Bool) : Nat → Option Jmp := fun key => cond (Nat.beq key 4) (some ⟨[2, 3, 4, 5], stW w h s w' h' s' na nb a b 0, (finW w h s w' h' s' na nb a b r).1, (finW w h s w' h' s' na nb a b r).2⟩) none
theorem run58 (w h s w' h' s' : Int) (na nb : Bool) (a b : List (List PC)) (r : Bool) : fnJ EM (JW w h s w' h' s' na nb a b r) 10 58 [.pagg (warpC w h s na a), .pagg (warpC w' h' s' nb b)] =
  cond (cond (cond (cond (neI w w') true (neI h h')) true (neI s s')) true (neI a.length b.length)) (decR (rks EM 58) [bP false]) (@ite _ (stW w h s w' h' s' na nb a b 0 = stW w h s w' h' s' na nb a b 0) (Classical.propDecidable _) (cond r (decR (rks EM 58) [bP true]) (decR (rks EM 58) [bP false])) none) := by cases r <;> kernel_rfl
theorem run58no (w h s w' h' s' : Int) (na nb : Bool) (a b : List (List PC)) : fnJ EM (fun _ => some jmpNo) 10 58 [.pagg (warpC w h s na a), .pagg (warpC w' h' s' nb b)] =
  cond (cond (cond (cond (neI w w') true (neI h h')) true (neI s s')) true (neI a.length b.length)) (decR (rks EM 58) [bP false]) (@ite _ ((⟨build 52 [], [.box 4 ((warpC w h s na a).map .p), .box 4 ((warpC w' h' s' nb b).map .p)]⟩ : St) = jmpNo.s0) (Classical.propDecidable _) none none) := by kernel_rfl
theorem loops58 : LoopsEq 58 := ⟨by kernel_rfl, by kernel_rfl⟩
theorem law58 (w h s w' h' s' : Int) (na nb : Bool) (a b : List (List PC)) (hlen : a.length ≤ 9223372036854775807) (hok : okWrp w h s w' h' s' a b = true) :
    Law EM 58 [.pagg (warpC w h s na a), .pagg (warpC w' h' s' nb b)] [bP (sameWrp w h s w' h' s' a b)] := by
  intro r hr
  unfold okWrp at hok
  unfold sameWrp at hr
  cases hb : cond (cond (cond (neI w w') true (neI h h')) true (neI s s')) true (neI a.length b.length) with
  | true =>
    refine fnJ_sim (J := fun _ => some jmpNo) (n := 10) mixed natOK_EM (fun c' _ j hj => by cases hj; exact jmpNo_ok) ?_
    rw [run58no, ← hr, hb]
    rfl
  | false =>
    rw [hb] at hok hr
    obtain ⟨q, hq⟩ := Option.isSome_iff_exists.1 hok
    refine fnJ_sim (J := JW w h s w' h' s' na nb a b q) (n := 10) mixed natOK_EM (fun c' hc' j hj => ?_) ?_
    · rw [loops58.1] at hc'
      obtain rfl := List.mem_singleton.1 hc'
      unfold JW at hj
      rw [loops58.2] at hj
      cases hj
      have := cmp_loop (S := stW w h s w' h' s' na nb a b) (m := 2) mixed natOK_EM (fun _ => rfl) (by simp [finW]) (by simp [finW]) (round58 w h s w' h' s' na nb a b) hlen q a b [] [] rfl rfl rfl hq
      cases q <;> exact this
    · rw [run58, hb, ← hr, hq, cond_false, if_pos rfl]
      cases q <;> rfl
end Go.Ev

namespace Go.Ev
open Go Go.Proofs
set_option maxRecDepth 100000

/-- A node's cells. -/
structure NodeS where
  id : Int
  kind : Int
  parent : Int
  name : ByteArray
  hidden : Bool
  locked : Bool
  clip : Bool
  opacity : Int
  mode : Int
  mw : Int
  mh : Int
  mvn : Bool
  mv : List (List PC)
  ta : Int
  tb : Int
  tc : Int
  td : Int
  te : Int
  tf : Int
  kernel : Int
  iw : Int
  ih : Int
  pixn : Bool
  pix : List (List PC)
  cr : Int
  cg : Int
  cb : Int
  ca : Int
  sub : Int
  parn : Bool
  par : List (List PC)
  spread : Int
  stopn : Bool
  stops : List (List PC)
  segn : Bool
  segs : List (List PC)
  rule : Int
  width : Int
  join : Int
  cap : Int
  text : ByteArray
  size : Int
  wrap : Int
  ref : Int
  wc : Int
  wr : Int
  ws : Int
  wdn : Bool
  wd : List (List PC)
def sP (s : ByteArray) : PC := .v (.string s)
def NodeS.t (n : NodeS) : List PC := [iP n.ta, iP n.tb, iP n.tc, iP n.td, iP n.te, iP n.tf]
def NodeS.color (n : NodeS) : List PC := [iP n.cr, iP n.cg, iP n.cb, iP n.ca]
def NodeS.cells (n : NodeS) : List PC := [iP n.id, iP n.kind, iP n.parent, sP n.name, bP n.hidden, bP n.locked, bP n.clip, iP n.opacity, iP n.mode, iP n.mw, iP n.mh, .sl 1 n.mvn n.mv,
  iP n.ta, iP n.tb, iP n.tc, iP n.td, iP n.te, iP n.tf, iP n.kernel, iP n.iw, iP n.ih, .sl 4 n.pixn n.pix, iP n.cr, iP n.cg, iP n.cb, iP n.ca, iP n.sub, .sl 1 n.parn n.par, iP n.spread, .sl 5 n.stopn n.stops, .sl 7 n.segn n.segs,
  iP n.rule, iP n.width, iP n.join, iP n.cap, sP n.text, iP n.size, iP n.wrap, iP n.ref, iP n.wc, iP n.wr, iP n.ws, .sl 2 n.wdn n.wd]

noncomputable def okL (ks : List Kind) (ty : TypeId) (s : Nat) (a b : List (List PC)) : Bool := cond (Nat.ble a.length 9223372036854775807) (okEq ks ty s a b) false
noncomputable def nat16 (f : FuncId) (args : List SV) : Option (Option Bool × List PC) :=
  if f = 36 then (match args with | [.one (.p (.sl 1 _ a)), .one (.p (.sl 1 _ b))] => some (some (okL (kI 1) 3 1 a b), [bP (eqL (kI 1) 3 1 a b)]) | _ => none)
  else if f = 37 then (match args with | [.one (.p (.sl 5 _ a)), .one (.p (.sl 5 _ b))] => some (some (okL (kI 5) 57 5 a b), [bP (eqL (kI 5) 57 5 a b)]) | _ => none)
  else if f = 38 then (match args with | [.one (.p (.sl 7 _ a)), .one (.p (.sl 7 _ b))] => some (some (okL (kI 7) 62 7 a b), [bP (eqL (kI 7) 62 7 a b)]) | _ => none)
  else if f = 39 then (match args with | [.one (.p (.sl 4 _ a)), .one (.p (.sl 4 _ b))] => some (some (okL (kI 4) 31 4 a b), [bP (eqL (kI 4) 31 4 a b)]) | _ => none)
  else if f = 40 then (match args with | [.one (.p (.sl 2 _ a)), .one (.p (.sl 2 _ b))] => some (some (okL (kI 2) 59 2 a b), [bP (eqL (kI 2) 59 2 a b)]) | _ => none)
  else none
noncomputable def E16 : Env := envOf nat16 [] true
def and2 (a b : Bool) : Bool := cond a b false
def eqN (a b : Int) : Bool := eqI a b
def eqB (a b : Bool) : Bool := a == b
def eqS (a b : ByteArray) : Bool := a.toList == b.toList
noncomputable def eqG (ty : TypeId) (a b : List PC) : Bool := (eqT Tryz.prog 8 ty a b).getD false
def numbers (a b : NodeS) : Bool := and2 (and2 (and2 (and2 (and2 (and2 (and2 (and2 (and2 (and2 (and2 (and2 (and2 (and2 (eqN a.id b.id) (eqN a.kind b.kind)) (eqN a.parent b.parent)) (eqN a.opacity b.opacity)) (eqN a.mode b.mode)) (eqN a.kernel b.kernel))
  (eqN a.sub b.sub)) (eqN a.spread b.spread)) (eqN a.rule b.rule)) (eqN a.width b.width)) (eqN a.join b.join)) (eqN a.cap b.cap)) (eqN a.size b.size)) (eqN a.wrap b.wrap)) (eqN a.ref b.ref)
def flags (a b : NodeS) : Bool := and2 (and2 (eqB a.hidden b.hidden) (eqB a.locked b.locked)) (eqB a.clip b.clip)
noncomputable def others (a b : NodeS) : Bool := and2 (and2 (and2 (eqS a.name b.name) (eqS a.text b.text)) (eqG 26 a.t b.t)) (eqG 31 a.color b.color)
/-- A call behind a condition. -/
def askB {ρ : Type} (c ok v : Bool) (K : Bool → Option ρ) : Option ρ := cond c (cond ok (K v) none) (K false)
noncomputable def lists16 {ρ : Type} (a b : NodeS) (K : Bool → Option ρ) : Option ρ :=
  cond (okL (kI 1) 3 1 a.par b.par) (cond (eqL (kI 1) 3 1 a.par b.par) (cond (okL (kI 5) 57 5 a.stops b.stops) (askB (eqL (kI 5) 57 5 a.stops b.stops) (okL (kI 7) 62 7 a.segs b.segs) (eqL (kI 7) 62 7 a.segs b.segs) K) none) (K false)) none
noncomputable def images16 {ρ : Type} (a b : NodeS) (K : Bool → Option ρ) : Option ρ :=
  askB (and2 (eqN a.mw b.mw) (eqN a.mh b.mh)) (okL (kI 1) 3 1 a.mv b.mv) (eqL (kI 1) 3 1 a.mv b.mv) fun v => askB (and2 (and2 v (eqN a.iw b.iw)) (eqN a.ih b.ih)) (okL (kI 4) 31 4 a.pix b.pix) (eqL (kI 4) 31 4 a.pix b.pix) K
noncomputable def warps16 {ρ : Type} (a b : NodeS) (K : Bool → Option ρ) : Option ρ :=
  askB (and2 (and2 (eqN a.wc b.wc) (eqN a.wr b.wr)) (eqN a.ws b.ws)) (okL (kI 2) 59 2 a.wd b.wd) (eqL (kI 2) 59 2 a.wd b.wd) K
theorem same16 (a b : NodeS) : fnM E16 20 16 [.pagg a.cells, .pagg b.cells] = lists16 a b fun l => images16 a b fun i => warps16 a b fun w => decR (rks E16 16) [bP (and2 (and2 (and2 (and2 (and2 (numbers a b) (flags a b)) (others a b)) l) i) w)] := by kernel_rfl

theorem okL_law {f : FuncId} {s : Nat} {ks : List Kind} {ty : TypeId} (hR : RoundEq f s ks ty) (hL : LoopsEq f) (hX : RunEq f s) (hN : RunEqNo f s) (na nb : Bool) (a b : List (List PC)) (h : okL ks ty s a b = true) :
    Law EM f [.one (.p (.sl s na a)), .one (.p (.sl s nb b))] [bP (eqL ks ty s a b)] := by
  unfold okL at h
  cases hl : Nat.ble a.length 9223372036854775807 with
  | false => rw [hl] at h; cases h
  | true => rw [hl] at h; exact eq_law hR hL hX hN na nb a b (Nat.le_of_ble_eq_true hl) h
theorem nat16_ok : NatOK E16 := NatOK.of fun f ag c cs h hpre => by
  have h' : nat16 f ag = some (c, cs) := h
  have hpre' : (match nat16 f ag with | some (some c, _) => c | _ => true) = true := hpre
  clear hpre
  unfold nat16 at h' hpre'
  split at h'
  · next hf =>
    subst hf
    split at h'
    · next na a nb b => cases h'; exact okL_law roundEq36 loopsEq36 runEq36 runEqNo36 na nb a b hpre'
    · cases h'
  · split at h'
    · next hf =>
      subst hf
      split at h'
      · next na a nb b => cases h'; exact okL_law roundEq37 loopsEq37 runEq37 runEqNo37 na nb a b hpre'
      · cases h'
    · split at h'
      · next hf =>
        subst hf
        split at h'
        · next na a nb b => cases h'; exact okL_law roundEq38 loopsEq38 runEq38 runEqNo38 na nb a b hpre'
        · cases h'
      · split at h'
        · next hf =>
          subst hf
          split at h'
          · next na a nb b => cases h'; exact okL_law roundEq39 loopsEq39 runEq39 runEqNo39 na nb a b hpre'
          · cases h'
        · split at h'
          · next hf =>
            subst hf
            split at h'
            · next na a nb b => cases h'; exact okL_law roundEq40 loopsEq40 runEq40 runEqNo40 na nb a b hpre'
            · cases h'
          · cases h'
/-- What two nodes' lists must be for the comparison to go through. -/
structure OkTwo (a b : NodeS) : Prop where
  par : okL (kI 1) 3 1 a.par b.par = true
  stops : okL (kI 5) 57 5 a.stops b.stops = true
  segs : okL (kI 7) 62 7 a.segs b.segs = true
  mv : okL (kI 1) 3 1 a.mv b.mv = true
  pix : okL (kI 4) 31 4 a.pix b.pix = true
  wd : okL (kI 2) 59 2 a.wd b.wd = true
noncomputable def listsB (a b : NodeS) : Bool := and2 (and2 (eqL (kI 1) 3 1 a.par b.par) (eqL (kI 5) 57 5 a.stops b.stops)) (eqL (kI 7) 62 7 a.segs b.segs)
noncomputable def imagesB (a b : NodeS) : Bool := and2 (and2 (and2 (and2 (and2 (eqN a.mw b.mw) (eqN a.mh b.mh)) (eqL (kI 1) 3 1 a.mv b.mv)) (eqN a.iw b.iw)) (eqN a.ih b.ih)) (eqL (kI 4) 31 4 a.pix b.pix)
noncomputable def warpsB (a b : NodeS) : Bool := and2 (and2 (and2 (eqN a.wc b.wc) (eqN a.wr b.wr)) (eqN a.ws b.ws)) (eqL (kI 2) 59 2 a.wd b.wd)
theorem askB_eq {ρ : Type} {c ok v : Bool} {K : Bool → Option ρ} (h : ok = true) : askB c ok v K = K (and2 c v) := by subst h; cases c <;> rfl
theorem lists16_eq {ρ : Type} {a b : NodeS} (h : OkTwo a b) (K : Bool → Option ρ) : lists16 a b K = K (listsB a b) := by
  unfold lists16 listsB
  rw [h.par, h.stops, askB_eq h.segs]
  cases eqL (kI 1) 3 1 a.par b.par <;> rfl
theorem images16_eq {ρ : Type} {a b : NodeS} (h : OkTwo a b) (K : Bool → Option ρ) : images16 a b K = K (imagesB a b) := by
  unfold images16 imagesB
  rw [askB_eq h.mv, askB_eq h.pix]
theorem warps16_eq {ρ : Type} {a b : NodeS} (h : OkTwo a b) (K : Bool → Option ρ) : warps16 a b K = K (warpsB a b) := by
  unfold warps16 warpsB
  rw [askB_eq h.wd]
/-- Whether two nodes are equal, as the program reckons it. -/
noncomputable def sameN (a b : NodeS) : Bool := and2 (and2 (and2 (and2 (and2 (numbers a b) (flags a b)) (others a b)) (listsB a b)) (imagesB a b)) (warpsB a b)
theorem ok16 : okCode (bodyOf E16 16) = true := by kernel_rfl
/-- node.Same. -/
theorem law16 (a b : NodeS) (h : OkTwo a b) : Law E16 16 [.pagg a.cells, .pagg b.cells] [bP (sameN a b)] := by
  refine lawM mixed nat16_ok rfl ok16 (n := 20) ?_
  rw [same16, lists16_eq h, images16_eq h, warps16_eq h]
  rfl
end Go.Ev

namespace Go.Ev
open Go Go.Proofs
set_option maxRecDepth 100000

theorem okLR_law {f : FuncId} {s : Nat} {ks : List Kind} {ty : TypeId} (hR : RoundR f s ks ty) (hL : LoopsEq f) (hX : RunR f s) (hN : RunRNo f s) (na nb : Bool) (a b : List (List PC)) (h : okL ks ty s a b = true) :
    Law EM f [.one (.p (.sl s na a)), .one (.p (.sl s nb b))] [bP (eqL ks ty s a b)] := by
  unfold okL at h
  cases hl : Nat.ble a.length 9223372036854775807 with
  | false => rw [hl] at h; cases h
  | true => rw [hl] at h; exact eqR_law hR hL hX hN na nb a b (Nat.le_of_ble_eq_true hl) h
noncomputable def okI (w h w' h' : Int) (a b : List (List PC)) : Bool := cond (Nat.ble a.length 9223372036854775807) (okImg w h w' h' a b) false
noncomputable def okW (w h s w' h' s' : Int) (a b : List (List PC)) : Bool := cond (Nat.ble a.length 9223372036854775807) (okWrp w h s w' h' s' a b) false
noncomputable def nat31 (f : FuncId) (args : List SV) : Option (Option Bool × List PC) :=
  if f = 54 then (match args with | [.one (.p (.sl 1 _ a)), .one (.p (.sl 1 _ b))] => some (some (okL (kI 1) 3 1 a b), [bP (eqL (kI 1) 3 1 a b)]) | _ => none)
  else if f = 56 then (match args with | [.one (.p (.sl 5 _ a)), .one (.p (.sl 5 _ b))] => some (some (okL (kI 5) 57 5 a b), [bP (eqL (kI 5) 57 5 a b)]) | _ => none)
  else if f = 57 then (match args with | [.one (.p (.sl 7 _ a)), .one (.p (.sl 7 _ b))] => some (some (okL (kI 7) 62 7 a b), [bP (eqL (kI 7) 62 7 a b)]) | _ => none)
  else if f = 55 then (match args with | [.pagg [.v (.int .i64 w), .v (.int .i64 h), .sl 4 _ a], .pagg [.v (.int .i64 w'), .v (.int .i64 h'), .sl 4 _ b]] => some (some (okI w h w' h' a b), [bP (sameImg w h w' h' a b)]) | _ => none)
  else if f = 58 then (match args with | [.pagg [.v (.int .i64 w), .v (.int .i64 h), .v (.int .i64 s), .sl 2 _ a], .pagg [.v (.int .i64 w'), .v (.int .i64 h'), .v (.int .i64 s'), .sl 2 _ b]] => some (some (okW w h s w' h' s' a b), [bP (sameWrp w h s w' h' s' a b)]) | _ => none)
  else none
noncomputable def E31 : Env := envOf nat31 [] true
theorem nat31_ok : NatOK E31 := NatOK.of fun f ag c cs h hpre => by
  have h' : nat31 f ag = some (c, cs) := h
  have hpre' : (match nat31 f ag with | some (some c, _) => c | _ => true) = true := hpre
  clear hpre
  unfold nat31 at h' hpre'
  split at h'
  · next hf =>
    subst hf
    split at h'
    · next na a nb b => cases h'; exact okLR_law roundR54 loopsR54 runR54 runRNo54 na nb a b hpre'
    · cases h'
  · split at h'
    · next hf =>
      subst hf
      split at h'
      · next na a nb b => cases h'; exact okLR_law roundR56 loopsR56 runR56 runRNo56 na nb a b hpre'
      · cases h'
    · split at h'
      · next hf =>
        subst hf
        split at h'
        · next na a nb b => cases h'; exact okLR_law roundR57 loopsR57 runR57 runRNo57 na nb a b hpre'
        · cases h'
      · split at h'
        · next hf =>
          subst hf
          split at h'
          · next w hh na a w' h2 nb b =>
            cases h'
            have hp : okI w hh w' h2 a b = true := hpre'
            unfold okI at hp
            cases hl : Nat.ble a.length 9223372036854775807 with
            | false => rw [hl] at hp; cases hp
            | true => rw [hl] at hp; exact law55 w hh w' h2 na nb a b (Nat.le_of_ble_eq_true hl) hp
          · cases h'
        · split at h'
          · next hf =>
            subst hf
            split at h'
            · next w hh s na a w' h2 s' nb b =>
              cases h'
              have hp : okW w hh s w' h2 s' a b = true := hpre'
              unfold okW at hp
              cases hl : Nat.ble a.length 9223372036854775807 with
              | false => rw [hl] at hp; cases hp
              | true => rw [hl] at hp; exact law58 w hh s w' h2 s' na nb a b (Nat.le_of_ble_eq_true hl) hp
            · cases h'
          · cases h'

def maskC (w h : Int) (n : Bool) (v : List (List PC)) : List PC := [iP w, iP h, .sl 1 n v]
theorem same30 (w h w' h' : Int) (na nb : Bool) (a b : List (List PC)) : fnM E31 20 30 [.pagg (maskC w h na a), .pagg (maskC w' h' nb b)] =
  askB (and2 (eqN w w') (eqN h h')) (okL (kI 1) 3 1 a b) (eqL (kI 1) 3 1 a b) fun v => decR (rks E31 30) [bP v] := by kernel_rfl
theorem ok30 : okCode (bodyOf E31 30) = true := by kernel_rfl
theorem law30 (w h w' h' : Int) (na nb : Bool) (a b : List (List PC)) (hok : okL (kI 1) 3 1 a b = true) : Law E31 30 [.pagg (maskC w h na a), .pagg (maskC w' h' nb b)] [bP (and2 (and2 (eqN w w') (eqN h h')) (eqL (kI 1) 3 1 a b))] := by
  refine lawM mixed nat31_ok rfl ok30 (n := 20) ?_
  rw [same30, askB_eq hok]
noncomputable def tail31 (a b : NodeS) (v : Bool) : Bool := and2 (and2 (and2 (and2 (and2 (and2 (and2 (and2 v (eqN a.rule b.rule)) (eqN a.width b.width)) (eqN a.join b.join)) (eqN a.cap b.cap)) (eqS a.text b.text)) (eqN a.size b.size)) (eqN a.wrap b.wrap)) (eqN a.ref b.ref)
theorem same31 (a b : NodeS) : fnM E31 20 31 [.pagg a.cells, .pagg b.cells] =
  cond (okI a.iw a.ih b.iw b.ih a.pix b.pix) (askB (and2 (and2 (sameImg a.iw a.ih b.iw b.ih a.pix b.pix) (eqG 31 a.color b.color)) (eqN a.sub b.sub)) (okL (kI 1) 3 1 a.par b.par) (eqL (kI 1) 3 1 a.par b.par) fun v1 =>
    askB (and2 v1 (eqN a.spread b.spread)) (okL (kI 5) 57 5 a.stops b.stops) (eqL (kI 5) 57 5 a.stops b.stops) fun v2 => askB v2 (okL (kI 7) 62 7 a.segs b.segs) (eqL (kI 7) 62 7 a.segs b.segs) fun v3 =>
      askB (tail31 a b v3) (okW a.wc a.wr a.ws b.wc b.wr b.ws a.wd b.wd) (sameWrp a.wc a.wr a.ws b.wc b.wr b.ws a.wd b.wd) fun v4 => decR (rks E31 31) [bP v4]) none := by kernel_rfl
structure OkTwoR (a b : NodeS) : Prop where
  img : okI a.iw a.ih b.iw b.ih a.pix b.pix = true
  par : okL (kI 1) 3 1 a.par b.par = true
  stops : okL (kI 5) 57 5 a.stops b.stops = true
  segs : okL (kI 7) 62 7 a.segs b.segs = true
  wrp : okW a.wc a.wr a.ws b.wc b.wr b.ws a.wd b.wd = true
noncomputable def content31 (a b : NodeS) : Bool :=
  and2 (tail31 a b (and2 (and2 (and2 (and2 (and2 (and2 (sameImg a.iw a.ih b.iw b.ih a.pix b.pix) (eqG 31 a.color b.color)) (eqN a.sub b.sub)) (eqL (kI 1) 3 1 a.par b.par)) (eqN a.spread b.spread)) (eqL (kI 5) 57 5 a.stops b.stops)) (eqL (kI 7) 62 7 a.segs b.segs)))
    (sameWrp a.wc a.wr a.ws b.wc b.wr b.ws a.wd b.wd)
theorem ok31 : okCode (bodyOf E31 31) = true := by kernel_rfl
theorem law31 (a b : NodeS) (h : OkTwoR a b) : Law E31 31 [.pagg a.cells, .pagg b.cells] [bP (content31 a b)] := by
  refine lawM mixed nat31_ok rfl ok31 (n := 20) ?_
  rw [same31, h.img, cond_true, askB_eq h.par, askB_eq h.stops, askB_eq h.segs, askB_eq h.wrp]
  rfl
end Go.Ev

namespace Go.Ev
open Go Go.Proofs
set_option maxRecDepth 100000

def rdI {α : Type} (l : List PC) (K : Int → List PC → Option α) : Option α := match l with | .v (.int .i64 n) :: r => K n r | _ => none
def rdB {α : Type} (l : List PC) (K : Bool → List PC → Option α) : Option α := match l with | .v (.bool n) :: r => K n r | _ => none
def rdS {α : Type} (l : List PC) (K : ByteArray → List PC → Option α) : Option α := match l with | .v (.string n) :: r => K n r | _ => none
def rdL {α : Type} (s : Nat) (l : List PC) (K : Bool → List (List PC) → List PC → Option α) : Option α := match l with | .sl s' nn es :: r => cond (Nat.beq s' s) (K nn es r) none | _ => none
theorem rdI_some {α : Type} {l : List PC} {K : Int → List PC → Option α} {y : α} (h : rdI l K = some y) : ∃ n r, l = iP n :: r ∧ K n r = some y := by
  unfold rdI at h; split at h
  · exact ⟨_, _, rfl, h⟩
  · cases h
theorem rdB_some {α : Type} {l : List PC} {K : Bool → List PC → Option α} {y : α} (h : rdB l K = some y) : ∃ n r, l = bP n :: r ∧ K n r = some y := by
  unfold rdB at h; split at h
  · exact ⟨_, _, rfl, h⟩
  · cases h
theorem rdS_some {α : Type} {l : List PC} {K : ByteArray → List PC → Option α} {y : α} (h : rdS l K = some y) : ∃ n r, l = sP n :: r ∧ K n r = some y := by
  unfold rdS at h; split at h
  · exact ⟨_, _, rfl, h⟩
  · cases h
theorem rdL_some {α : Type} {s : Nat} {l : List PC} {K : Bool → List (List PC) → List PC → Option α} {y : α} (h : rdL s l K = some y) : ∃ nn es r, l = .sl s nn es :: r ∧ K nn es r = some y := by
  unfold rdL at h; split at h
  · next s' nn es r =>
    cases hb : Nat.beq s' s with
    | false => rw [hb] at h; cases h
    | true => rw [hb] at h; have := Nat.eq_of_beq_eq_true hb; subst this; exact ⟨_, _, _, rfl, h⟩
  · cases h
def nodeOf (l : List PC) : Option NodeS :=
  rdI l fun id l =>
  rdI l fun kind l =>
  rdI l fun parent l =>
  rdS l fun name l =>
  rdB l fun hidden l =>
  rdB l fun locked l =>
  rdB l fun clip l =>
  rdI l fun opacity l =>
  rdI l fun mode l =>
  rdI l fun mw l =>
  rdI l fun mh l =>
  rdL 1 l fun mvn mv l =>
  rdI l fun ta l =>
  rdI l fun tb l =>
  rdI l fun tc l =>
  rdI l fun td l =>
  rdI l fun te l =>
  rdI l fun tf l =>
  rdI l fun kernel l =>
  rdI l fun iw l =>
  rdI l fun ih l =>
  rdL 4 l fun pixn pix l =>
  rdI l fun cr l =>
  rdI l fun cg l =>
  rdI l fun cb l =>
  rdI l fun ca l =>
  rdI l fun sub l =>
  rdL 1 l fun parn par l =>
  rdI l fun spread l =>
  rdL 5 l fun stopn stops l =>
  rdL 7 l fun segn segs l =>
  rdI l fun rule l =>
  rdI l fun width l =>
  rdI l fun join l =>
  rdI l fun cap l =>
  rdS l fun text l =>
  rdI l fun size l =>
  rdI l fun wrap l =>
  rdI l fun ref l =>
  rdI l fun wc l =>
  rdI l fun wr l =>
  rdI l fun ws l =>
  rdL 2 l fun wdn wd l =>
  match l with | [] => some ⟨id, kind, parent, name, hidden, locked, clip, opacity, mode, mw, mh, mvn, mv, ta, tb, tc, td, te, tf, kernel, iw, ih, pixn, pix, cr, cg, cb, ca, sub, parn, par, spread, stopn, stops, segn, segs, rule, width, join, cap, text, size, wrap, ref, wc, wr, ws, wdn, wd⟩ | _ => none
theorem nodeOf_cells {l : List PC} {a : NodeS} (h : nodeOf l = some a) : l = a.cells := by
  have h0 := h
  clear h
  unfold nodeOf at h0
  obtain ⟨id, _, e0, h1⟩ := rdI_some h0
  clear h0
  subst e0
  obtain ⟨kind, _, e1, h2⟩ := rdI_some h1
  clear h1
  subst e1
  obtain ⟨parent, _, e2, h3⟩ := rdI_some h2
  clear h2
  subst e2
  obtain ⟨name, _, e3, h4⟩ := rdS_some h3
  clear h3
  subst e3
  obtain ⟨hidden, _, e4, h5⟩ := rdB_some h4
  clear h4
  subst e4
  obtain ⟨locked, _, e5, h6⟩ := rdB_some h5
  clear h5
  subst e5
  obtain ⟨clip, _, e6, h7⟩ := rdB_some h6
  clear h6
  subst e6
  obtain ⟨opacity, _, e7, h8⟩ := rdI_some h7
  clear h7
  subst e7
  obtain ⟨mode, _, e8, h9⟩ := rdI_some h8
  clear h8
  subst e8
  obtain ⟨mw, _, e9, h10⟩ := rdI_some h9
  clear h9
  subst e9
  obtain ⟨mh, _, e10, h11⟩ := rdI_some h10
  clear h10
  subst e10
  obtain ⟨mvn, mv, _, e11, h12⟩ := rdL_some h11
  clear h11
  subst e11
  obtain ⟨ta, _, e12, h13⟩ := rdI_some h12
  clear h12
  subst e12
  obtain ⟨tb, _, e13, h14⟩ := rdI_some h13
  clear h13
  subst e13
  obtain ⟨tc, _, e14, h15⟩ := rdI_some h14
  clear h14
  subst e14
  obtain ⟨td, _, e15, h16⟩ := rdI_some h15
  clear h15
  subst e15
  obtain ⟨te, _, e16, h17⟩ := rdI_some h16
  clear h16
  subst e16
  obtain ⟨tf, _, e17, h18⟩ := rdI_some h17
  clear h17
  subst e17
  obtain ⟨kernel, _, e18, h19⟩ := rdI_some h18
  clear h18
  subst e18
  obtain ⟨iw, _, e19, h20⟩ := rdI_some h19
  clear h19
  subst e19
  obtain ⟨ih, _, e20, h21⟩ := rdI_some h20
  clear h20
  subst e20
  obtain ⟨pixn, pix, _, e21, h22⟩ := rdL_some h21
  clear h21
  subst e21
  obtain ⟨cr, _, e22, h23⟩ := rdI_some h22
  clear h22
  subst e22
  obtain ⟨cg, _, e23, h24⟩ := rdI_some h23
  clear h23
  subst e23
  obtain ⟨cb, _, e24, h25⟩ := rdI_some h24
  clear h24
  subst e24
  obtain ⟨ca, _, e25, h26⟩ := rdI_some h25
  clear h25
  subst e25
  obtain ⟨sub, _, e26, h27⟩ := rdI_some h26
  clear h26
  subst e26
  obtain ⟨parn, par, _, e27, h28⟩ := rdL_some h27
  clear h27
  subst e27
  obtain ⟨spread, _, e28, h29⟩ := rdI_some h28
  clear h28
  subst e28
  obtain ⟨stopn, stops, _, e29, h30⟩ := rdL_some h29
  clear h29
  subst e29
  obtain ⟨segn, segs, _, e30, h31⟩ := rdL_some h30
  clear h30
  subst e30
  obtain ⟨rule, _, e31, h32⟩ := rdI_some h31
  clear h31
  subst e31
  obtain ⟨width, _, e32, h33⟩ := rdI_some h32
  clear h32
  subst e32
  obtain ⟨join, _, e33, h34⟩ := rdI_some h33
  clear h33
  subst e33
  obtain ⟨cap, _, e34, h35⟩ := rdI_some h34
  clear h34
  subst e34
  obtain ⟨text, _, e35, h36⟩ := rdS_some h35
  clear h35
  subst e35
  obtain ⟨size, _, e36, h37⟩ := rdI_some h36
  clear h36
  subst e36
  obtain ⟨wrap, _, e37, h38⟩ := rdI_some h37
  clear h37
  subst e37
  obtain ⟨ref, _, e38, h39⟩ := rdI_some h38
  clear h38
  subst e38
  obtain ⟨wc, _, e39, h40⟩ := rdI_some h39
  clear h39
  subst e39
  obtain ⟨wr, _, e40, h41⟩ := rdI_some h40
  clear h40
  subst e40
  obtain ⟨ws, _, e41, h42⟩ := rdI_some h41
  clear h41
  subst e41
  obtain ⟨wdn, wd, _, e42, h43⟩ := rdL_some h42
  clear h42
  subst e42
  split at h43
  · cases h43; rfl
  · cases h43
theorem nodeOf_of (a : NodeS) : nodeOf a.cells = some a := by kernel_rfl
end Go.Ev

namespace Go.Ev
open Go Go.Proofs
set_option maxRecDepth 100000

noncomputable def okR (a b : NodeS) : Bool := okI a.iw a.ih b.iw b.ih a.pix b.pix && (okL (kI 1) 3 1 a.par b.par && (okL (kI 5) 57 5 a.stops b.stops && (okL (kI 7) 62 7 a.segs b.segs && okW a.wc a.wr a.ws b.wc b.wr b.ws a.wd b.wd)))
theorem okR_two {a b : NodeS} (h : okR a b = true) : OkTwoR a b := by
  unfold okR at h
  simp only [Bool.and_eq_true] at h
  exact ⟨h.1, h.2.1, h.2.2.1, h.2.2.2.1, h.2.2.2.2⟩
noncomputable def maskB (w h w' h' : Int) (a b : List (List PC)) : Bool := and2 (and2 (eqN w w') (eqN h h')) (eqL (kI 1) 3 1 a b)
noncomputable def nat11 (f : FuncId) (args : List SV) : Option (Option Bool × List PC) :=
  if f = 30 then (match args with | [.pagg [.v (.int .i64 w), .v (.int .i64 h), .sl 1 _ a], .pagg [.v (.int .i64 w'), .v (.int .i64 h'), .sl 1 _ b]] => some (some (okL (kI 1) 3 1 a b), [bP (maskB w h w' h' a b)]) | _ => none)
  else if f = 31 then (match args with | [.pagg x, .pagg y] => (match nodeOf x, nodeOf y with | some a, some b => some (some (okR a b), [bP (content31 a b)]) | _, _ => none) | _ => none)
  else none
noncomputable def E11 : Env := envOf nat11 [] true
theorem nat11_ok : NatOK E11 := NatOK.of fun f ag c cs h hpre => by
  have h' : nat11 f ag = some (c, cs) := h
  have hpre' : (match nat11 f ag with | some (some c, _) => c | _ => true) = true := hpre
  clear hpre
  unfold nat11 at h' hpre'
  split at h'
  · next hf =>
    subst hf
    split at h'
    · next w hh na a w' h2 nb b =>
      cases h'
      exact law30 w hh w' h2 na nb a b hpre'
    · cases h'
  · split at h'
    · next hf =>
      subst hf
      split at h'
      · next x y =>
        split at h'
        · next a b ha hb =>
          cases h'
          rw [nodeOf_cells ha, nodeOf_cells hb]
          refine law31 a b (okR_two ?_)
          simp only [ha, hb] at hpre'
          exact hpre'
        · cases h'
      · cases h'
    · cases h'
def head11 (a b : NodeS) : Bool := and2 (and2 (and2 (and2 (and2 (and2 (and2 (and2 (eqN a.id b.id) (eqN a.kind b.kind)) (eqN a.parent b.parent)) (eqS a.name b.name)) (eqB a.hidden b.hidden)) (eqB a.locked b.locked)) (eqB a.clip b.clip)) (eqN a.opacity b.opacity)) (eqN a.mode b.mode)
theorem same11 (a b : NodeS) : fnM E11 20 11 [.pagg a.cells, .pagg b.cells] =
  askB (head11 a b) (okL (kI 1) 3 1 a.mv b.mv) (maskB a.mw a.mh b.mw b.mh a.mv b.mv) fun v =>
    askB (and2 (and2 v (eqG 26 a.t b.t)) (eqN a.kernel b.kernel)) (okR a b) (content31 a b) fun v => decR (rks E11 11) [bP v] := by kernel_rfl
theorem ok11 : okCode (bodyOf E11 11) = true := by kernel_rfl
noncomputable def sameR (a b : NodeS) : Bool := and2 (and2 (and2 (and2 (head11 a b) (maskB a.mw a.mh b.mw b.mh a.mv b.mv)) (eqG 26 a.t b.t)) (eqN a.kernel b.kernel)) (content31 a b)
/-- The reference's Same. -/
theorem law11 (a b : NodeS) (h1 : okL (kI 1) 3 1 a.mv b.mv = true) (h2 : okR a b = true) : Law E11 11 [.pagg a.cells, .pagg b.cells] [bP (sameR a b)] := by
  refine lawM mixed nat11_ok rfl ok11 (n := 20) ?_
  rw [same11, askB_eq h1, askB_eq h2]
  rfl
end Go.Ev

namespace Go.Ev
open Go Go.Proofs
set_option maxRecDepth 100000

theorem and2_and (a b : Bool) : and2 a b = (a && b) := by cases a <;> rfl
theorem neI_eqN (a b : Int) : neI a b = !eqN a b := by unfold neI eqN; rw [eqI_eq]; rfl
theorem sameImg_eq (w h w' h' : Int) (a b : List (List PC)) : sameImg w h w' h' a b = (eqN w w' && (eqN h h' && eqL (kI 4) 31 4 a b)) := by
  unfold sameImg eqL
  rw [neI_eqN, neI_eqN]
  have e : @bne Int _ a.length b.length = neI a.length b.length := rfl
  rw [e]
  cases eqN w w' <;> cases eqN h h' <;> cases neI a.length b.length <;> rfl
theorem sameWrp_eq (w h s w' h' s' : Int) (a b : List (List PC)) : sameWrp w h s w' h' s' a b = (eqN w w' && (eqN h h' && (eqN s s' && eqL (kI 2) 59 2 a b))) := by
  unfold sameWrp eqL
  rw [neI_eqN, neI_eqN, neI_eqN]
  have e : @bne Int _ a.length b.length = neI a.length b.length := rfl
  rw [e]
  cases eqN w w' <;> cases eqN h h' <;> cases eqN s s' <;> cases neI a.length b.length <;> rfl
theorem sameN_eq (a b : NodeS) : sameN a b = sameR a b := by
  unfold sameN sameR content31 tail31 maskB head11 numbers flags others listsB imagesB warpsB
  simp only [sameImg_eq, sameWrp_eq, and2_and]
  ac_rfl
end Go.Ev

namespace Go.Ev
open Go Go.Proofs
set_option maxRecDepth 100000

noncomputable def okT (a b : NodeS) : Bool := okL (kI 1) 3 1 a.par b.par && (okL (kI 5) 57 5 a.stops b.stops && (okL (kI 7) 62 7 a.segs b.segs && (okL (kI 1) 3 1 a.mv b.mv && (okL (kI 4) 31 4 a.pix b.pix && okL (kI 2) 59 2 a.wd b.wd))))
theorem okT_two {a b : NodeS} (h : okT a b = true) : OkTwo a b := by
  unfold okT at h
  simp only [Bool.and_eq_true] at h
  exact ⟨h.1, h.2.1, h.2.2.1, h.2.2.2.1, h.2.2.2.2.1, h.2.2.2.2.2⟩
noncomputable def okT2 (a b : NodeS) : Bool := okL (kI 1) 3 1 a.mv b.mv && okR a b
noncomputable def nat4 (f : FuncId) (args : List SV) : Option (Option Bool × List PC) :=
  if f = 16 then (match args with | [.pagg x, .pagg y] => (match nodeOf x, nodeOf y with | some a, some b => some (some (okT a b), [bP (sameN a b)]) | _, _ => none) | _ => none)
  else if f = 11 then (match args with | [.pagg x, .pagg y] => (match nodeOf x, nodeOf y with | some a, some b => some (some (okT2 a b), [bP (sameR a b)]) | _, _ => none) | _ => none)
  else if f = 15 then (match args with | [] => some (none, [bP true]) | _ => none)
  else none
noncomputable def E4 : Env := envOf nat4 [] true
theorem law15s : Law EC 15 [] [bP true] := law_of mixed (fun f ag c cs r h => by cases h) example_true
theorem nat4_ok : NatOK E4 := NatOK.of fun f ag c cs h hpre => by
  have h' : nat4 f ag = some (c, cs) := h
  have hpre' : (match nat4 f ag with | some (some c, _) => c | _ => true) = true := hpre
  clear hpre
  unfold nat4 at h' hpre'
  split at h'
  · next hf =>
    subst hf
    split at h'
    · next x y =>
      split at h'
      · next a b ha hb =>
        cases h'
        rw [nodeOf_cells ha, nodeOf_cells hb]
        refine law16 a b (okT_two ?_)
        simp only [ha, hb] at hpre'
        exact hpre'
      · cases h'
    · cases h'
  · split at h'
    · next hf =>
      subst hf
      split at h'
      · next x y =>
        split at h'
        · next a b ha hb =>
          cases h'
          rw [nodeOf_cells ha, nodeOf_cells hb]
          simp only [ha, hb] at hpre'
          have hp : okT2 a b = true := hpre'
          unfold okT2 at hp
          obtain ⟨h1, h2⟩ := (Bool.and_eq_true _ _).mp hp
          exact law11 a b h1 h2
        · cases h'
      · cases h'
    · split at h'
      · next hf =>
        subst hf
        split at h'
        · cases h'; exact law15s
        · cases h'
      · cases h'
theorem same4 (a b : NodeS) : fnM E4 20 4 [.pagg (a.cells ++ b.cells)] =
  cond (okT a b) (cond (sameN a b) (cond (okT2 a b) (cond (sameR a b) (decR (rks E4 4) [bP true]) (decR (rks E4 4) [bP false])) none) (cond (okT2 a b) (cond (sameR a b) (decR (rks E4 4) [bP false]) (decR (rks E4 4) [bP true])) none)) none := by kernel_rfl
theorem ok4 : okCode (bodyOf E4 4) = true := by kernel_rfl
/-- NodeSames answers true. -/
theorem law4 (a b : NodeS) (h1 : okT a b = true) (h2 : okT2 a b = true) : Law E4 4 [.pagg (a.cells ++ b.cells)] [bP true] := by
  refine lawM mixed nat4_ok rfl ok4 (n := 20) ?_
  rw [same4, h1, h2, sameN_eq]
  cases sameR a b <;> rfl
end Go.Ev

namespace Go.Ev
open Go Go.Proofs
set_option maxRecDepth 100000

noncomputable def P11 : FnP where
  f := 11
  ss := [SS.pagg [(PS.int IntKind.i64), (PS.int IntKind.i64), (PS.int IntKind.i64), PS.str, PS.bool, PS.bool, PS.bool, (PS.int IntKind.i64), (PS.int IntKind.i64), (PS.int IntKind.i64), (PS.int IntKind.i64), (PS.sl 1), (PS.int IntKind.i64), (PS.int IntKind.i64), (PS.int IntKind.i64), (PS.int IntKind.i64), (PS.int IntKind.i64), (PS.int IntKind.i64), (PS.int IntKind.i64), (PS.int IntKind.i64), (PS.int IntKind.i64), (PS.sl 4), (PS.int IntKind.i64), (PS.int IntKind.i64), (PS.int IntKind.i64), (PS.int IntKind.i64), (PS.int IntKind.i64), (PS.sl 1), (PS.int IntKind.i64), (PS.sl 5), (PS.sl 7), (PS.int IntKind.i64), (PS.int IntKind.i64), (PS.int IntKind.i64), (PS.int IntKind.i64), PS.str, (PS.int IntKind.i64), (PS.int IntKind.i64), (PS.int IntKind.i64), (PS.int IntKind.i64), (PS.int IntKind.i64), (PS.int IntKind.i64), (PS.sl 2)], SS.pagg [(PS.int IntKind.i64), (PS.int IntKind.i64), (PS.int IntKind.i64), PS.str, PS.bool, PS.bool, PS.bool, (PS.int IntKind.i64), (PS.int IntKind.i64), (PS.int IntKind.i64), (PS.int IntKind.i64), (PS.sl 1), (PS.int IntKind.i64), (PS.int IntKind.i64), (PS.int IntKind.i64), (PS.int IntKind.i64), (PS.int IntKind.i64), (PS.int IntKind.i64), (PS.int IntKind.i64), (PS.int IntKind.i64), (PS.int IntKind.i64), (PS.sl 4), (PS.int IntKind.i64), (PS.int IntKind.i64), (PS.int IntKind.i64), (PS.int IntKind.i64), (PS.int IntKind.i64), (PS.sl 1), (PS.int IntKind.i64), (PS.sl 5), (PS.sl 7), (PS.int IntKind.i64), (PS.int IntKind.i64), (PS.int IntKind.i64), (PS.int IntKind.i64), PS.str, (PS.int IntKind.i64), (PS.int IntKind.i64), (PS.int IntKind.i64), (PS.int IntKind.i64), (PS.int IntKind.i64), (PS.int IntKind.i64), (PS.sl 2)]]
  hs := [HT.int, HT.int, HT.int, HT.str, HT.bool, HT.bool, HT.bool, HT.int, HT.int, HT.int, HT.int, HT.lst, HT.int, HT.int, HT.int, HT.int, HT.int, HT.int, HT.int, HT.int, HT.int, HT.lst, HT.int, HT.int, HT.int, HT.int, HT.int, HT.lst, HT.int, HT.lst, HT.lst, HT.int, HT.int, HT.int, HT.int, HT.str, HT.int, HT.int, HT.int, HT.int, HT.int, HT.int, HT.lst, HT.int, HT.int, HT.int, HT.str, HT.bool, HT.bool, HT.bool, HT.int, HT.int, HT.int, HT.int, HT.lst, HT.int, HT.int, HT.int, HT.int, HT.int, HT.int, HT.int, HT.int, HT.int, HT.lst, HT.int, HT.int, HT.int, HT.int, HT.int, HT.lst, HT.int, HT.lst, HT.lst, HT.int, HT.int, HT.int, HT.int, HT.str, HT.int, HT.int, HT.int, HT.int, HT.int, HT.int, HT.lst]
  rs := [PS.bool]
  ro := [HT.bool]
  pre := fun x => match x with | (a0, a1, a2, a3, a4, a5, a6, a7, a8, a9, a10, a11, a12, a13, a14, a15, a16, a17, a18, a19, a20, a21, a22, a23, a24, a25, a26, a27, a28, a29, a30, a31, a32, a33, a34, a35, a36, a37, a38, a39, a40, a41, a42, a43, a44, a45, a46, a47, a48, a49, a50, a51, a52, a53, a54, a55, a56, a57, a58, a59, a60, a61, a62, a63, a64, a65, a66, a67, a68, a69, a70, a71, a72, a73, a74, a75, a76, a77, a78, a79, a80, a81, a82, a83, a84, a85, ()) => some (okT2 (NodeS.mk a0 a1 a2 a3 a4 a5 a6 a7 a8 a9 a10 false a11 a12 a13 a14 a15 a16 a17 a18 a19 a20 false a21 a22 a23 a24 a25 a26 false a27 a28 false a29 false a30 a31 a32 a33 a34 a35 a36 a37 a38 a39 a40 a41 false a42) (NodeS.mk a43 a44 a45 a46 a47 a48 a49 a50 a51 a52 a53 false a54 a55 a56 a57 a58 a59 a60 a61 a62 a63 false a64 a65 a66 a67 a68 a69 false a70 a71 false a72 false a73 a74 a75 a76 a77 a78 a79 a80 a81 a82 a83 a84 false a85))
  res := fun x => match x with | (a0, a1, a2, a3, a4, a5, a6, a7, a8, a9, a10, a11, a12, a13, a14, a15, a16, a17, a18, a19, a20, a21, a22, a23, a24, a25, a26, a27, a28, a29, a30, a31, a32, a33, a34, a35, a36, a37, a38, a39, a40, a41, a42, a43, a44, a45, a46, a47, a48, a49, a50, a51, a52, a53, a54, a55, a56, a57, a58, a59, a60, a61, a62, a63, a64, a65, a66, a67, a68, a69, a70, a71, a72, a73, a74, a75, a76, a77, a78, a79, a80, a81, a82, a83, a84, a85, ()) => (sameR (NodeS.mk a0 a1 a2 a3 a4 a5 a6 a7 a8 a9 a10 false a11 a12 a13 a14 a15 a16 a17 a18 a19 a20 false a21 a22 a23 a24 a25 a26 false a27 a28 false a29 false a30 a31 a32 a33 a34 a35 a36 a37 a38 a39 a40 a41 false a42) (NodeS.mk a43 a44 a45 a46 a47 a48 a49 a50 a51 a52 a53 false a54 a55 a56 a57 a58 a59 a60 a61 a62 a63 false a64 a65 a66 a67 a68 a69 false a70 a71 false a72 false a73 a74 a75 a76 a77 a78 a79 a80 a81 a82 a83 a84 false a85), ())
theorem P11_ok : P11.OK EM := by
  intro x hp
  obtain ⟨a0, a1, a2, a3, a4, a5, a6, a7, a8, a9, a10, a11, a12, a13, a14, a15, a16, a17, a18, a19, a20, a21, a22, a23, a24, a25, a26, a27, a28, a29, a30, a31, a32, a33, a34, a35, a36, a37, a38, a39, a40, a41, a42, a43, a44, a45, a46, a47, a48, a49, a50, a51, a52, a53, a54, a55, a56, a57, a58, a59, a60, a61, a62, a63, a64, a65, a66, a67, a68, a69, a70, a71, a72, a73, a74, a75, a76, a77, a78, a79, a80, a81, a82, a83, a84, a85, ⟨⟩⟩ := x
  have hp' : okT2 (NodeS.mk a0 a1 a2 a3 a4 a5 a6 a7 a8 a9 a10 false a11 a12 a13 a14 a15 a16 a17 a18 a19 a20 false a21 a22 a23 a24 a25 a26 false a27 a28 false a29 false a30 a31 a32 a33 a34 a35 a36 a37 a38 a39 a40 a41 false a42) (NodeS.mk a43 a44 a45 a46 a47 a48 a49 a50 a51 a52 a53 false a54 a55 a56 a57 a58 a59 a60 a61 a62 a63 false a64 a65 a66 a67 a68 a69 false a70 a71 false a72 false a73 a74 a75 a76 a77 a78 a79 a80 a81 a82 a83 a84 false a85) = true := hp
  unfold okT2 at hp'
  obtain ⟨h1, h2⟩ := (Bool.and_eq_true _ _).mp hp'
  have h := law11 (NodeS.mk a0 a1 a2 a3 a4 a5 a6 a7 a8 a9 a10 false a11 a12 a13 a14 a15 a16 a17 a18 a19 a20 false a21 a22 a23 a24 a25 a26 false a27 a28 false a29 false a30 a31 a32 a33 a34 a35 a36 a37 a38 a39 a40 a41 false a42) (NodeS.mk a43 a44 a45 a46 a47 a48 a49 a50 a51 a52 a53 false a54 a55 a56 a57 a58 a59 a60 a61 a62 a63 false a64 a65 a66 a67 a68 a69 false a70 a71 false a72 false a73 a74 a75 a76 a77 a78 a79 a80 a81 a82 a83 a84 false a85) h1 h2
  have e : P11.args (a0, a1, a2, a3, a4, a5, a6, a7, a8, a9, a10, a11, a12, a13, a14, a15, a16, a17, a18, a19, a20, a21, a22, a23, a24, a25, a26, a27, a28, a29, a30, a31, a32, a33, a34, a35, a36, a37, a38, a39, a40, a41, a42, a43, a44, a45, a46, a47, a48, a49, a50, a51, a52, a53, a54, a55, a56, a57, a58, a59, a60, a61, a62, a63, a64, a65, a66, a67, a68, a69, a70, a71, a72, a73, a74, a75, a76, a77, a78, a79, a80, a81, a82, a83, a84, a85, ()) = [.pagg ((NodeS.mk a0 a1 a2 a3 a4 a5 a6 a7 a8 a9 a10 false a11 a12 a13 a14 a15 a16 a17 a18 a19 a20 false a21 a22 a23 a24 a25 a26 false a27 a28 false a29 false a30 a31 a32 a33 a34 a35 a36 a37 a38 a39 a40 a41 false a42)).cells, .pagg ((NodeS.mk a43 a44 a45 a46 a47 a48 a49 a50 a51 a52 a53 false a54 a55 a56 a57 a58 a59 a60 a61 a62 a63 false a64 a65 a66 a67 a68 a69 false a70 a71 false a72 false a73 a74 a75 a76 a77 a78 a79 a80 a81 a82 a83 a84 false a85)).cells] := by kernel_rfl
  have e2 : P11.cells (P11.res (a0, a1, a2, a3, a4, a5, a6, a7, a8, a9, a10, a11, a12, a13, a14, a15, a16, a17, a18, a19, a20, a21, a22, a23, a24, a25, a26, a27, a28, a29, a30, a31, a32, a33, a34, a35, a36, a37, a38, a39, a40, a41, a42, a43, a44, a45, a46, a47, a48, a49, a50, a51, a52, a53, a54, a55, a56, a57, a58, a59, a60, a61, a62, a63, a64, a65, a66, a67, a68, a69, a70, a71, a72, a73, a74, a75, a76, a77, a78, a79, a80, a81, a82, a83, a84, a85, ())) = [bP (sameR (NodeS.mk a0 a1 a2 a3 a4 a5 a6 a7 a8 a9 a10 false a11 a12 a13 a14 a15 a16 a17 a18 a19 a20 false a21 a22 a23 a24 a25 a26 false a27 a28 false a29 false a30 a31 a32 a33 a34 a35 a36 a37 a38 a39 a40 a41 false a42) (NodeS.mk a43 a44 a45 a46 a47 a48 a49 a50 a51 a52 a53 false a54 a55 a56 a57 a58 a59 a60 a61 a62 a63 false a64 a65 a66 a67 a68 a69 false a70 a71 false a72 false a73 a74 a75 a76 a77 a78 a79 a80 a81 a82 a83 a84 false a85))] := by kernel_rfl
  rw [e, e2]
  exact h
end Go.Ev

namespace Go.Ev
open Go Go.Proofs
set_option maxRecDepth 100000
noncomputable def P15 : FnP where
  f := 15
  ss := []
  hs := []
  rs := [PS.bool]
  ro := [HT.bool]
  pre := fun _ => none
  res := fun _ => (true, ())
theorem P15_ok : P15.OK EM := fun _ _ => (show Law EM 15 [] [bP true] from law15s)
end Go.Ev
