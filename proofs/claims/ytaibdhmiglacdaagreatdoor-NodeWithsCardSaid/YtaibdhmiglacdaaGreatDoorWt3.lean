/-
  A quick twin of the merging evaluator: temporaries as a function, nothing forced.
-/
import Derived.Test.YtaibdhmiglacdaaGreatDoorWt2

namespace Go.Ev
open Go
set_option maxRecDepth 100000

structure GV where
  g : Nat
  w : Bool
  x : SV
noncomputable def avG : AV → Option GV := @AV.rec (fun _ => Option GV) (fun _ => none) (fun _ => none) (fun g w x => some ⟨g, w, x⟩)
noncomputable def gvN : NV → Option GV := @NV.rec (fun _ => Option GV) (fun _ _ => none) (fun _ => none) (fun _ => none) (fun _ _ => none) (fun _ _ _ => none) (fun _ _ => none) (fun _ _ => none) (fun _ _ _ => none) (fun _ _ _ => none)
  (fun _ => none) (fun _ => none) (fun _ => none) (fun _ => none) avG
noncomputable def chainN (t : TN) : Nat → Nat → Bool → List (Nat × Bool)
  | 0, _, _ => []
  | n + 1, g, w => (g, w) :: @Option.rec GV (fun _ => List (Nat × Bool)) [] (fun v => chainN t n v.g v.w) (ob (t g) gvN)
noncomputable def inCh (ch : List (Nat × Bool)) (g : Nat) (w : Bool) : Bool := @List.rec (Nat × Bool) (fun _ => Bool) false (fun p _ ih => cond (Nat.beq p.1 g) (cond (p.2 == w) true ih) ih) ch
noncomputable def unG (ch : List (Nat × Bool)) (v : NV) : NV := @Option.rec GV (fun _ => NV) v (fun q => cond (inCh ch q.g q.w) (svN q.x) v) (gvN v)
noncomputable def effN (t : TN) (ch : List (Nat × Bool)) : TN := fun i => ob (t i) fun v => some (unG ch v)
noncomputable def stG (g : Nat) (b : Bool) (v : NV) : NV := @Option.rec GV (fun _ => NV) v (fun q => cond (Nat.beq q.g g) (cond (q.w == b) (svN q.x) (.tup [])) v) (gvN v)
noncomputable def settleN (t : TN) (g : Nat) (b : Bool) : TN := fun i => cond (Nat.beq i g) (some (.bool b)) (ob (t i) fun v => some (stG g b v))
noncomputable def unAll (v : NV) : NV := @Option.rec GV (fun _ => NV) v (fun _ => .other (.s .dead)) (gvN v)
noncomputable def tidyN (t : TN) : TN := fun i => ob (t i) fun v => some (unAll v)
noncomputable def rootN (t : TN) : Nat → Nat → Nat
  | 0, g => g
  | n + 1, g => @Option.rec GV (fun _ => Nat) g (fun v => rootN t n v.g) (ob (t g) gvN)
noncomputable def isBp : NV → Bool := @NV.rec (fun _ => Bool) (fun _ _ => false) (fun _ => false) (fun _ => false) (fun _ _ => true) (fun _ _ _ => false) (fun _ _ => false) (fun _ _ => false) (fun _ _ _ => false) (fun _ _ _ => false) (fun c => match c with | .bp _ _ => true | _ => false) (fun _ => false) (fun _ => false) (fun _ => false) (fun v => match v with | .s (.one (.bp _ _)) => true | _ => false)
noncomputable def pureN (o : Option SV) : Bool := @Option.rec SV (fun _ => Bool) false pureSV o
noncomputable def nearN (t : TN) : Op → Bool
  | .load _ a => @Option.rec NV (fun _ => Bool) false isBp (opdN t a)
  | .call { callee := .value _, args, .. } => args.toList.all fun x => pureN (ob (opdN t x) NV.sv)
  | _ => true

section
variable {ρ : Type} (E : Env)
variable (call : (f : FuncId) → List SV → Option (RTup (rks E f))) (body : Nat → Code → TN → List Ob → HP → Nat → (X → TN → List Ob → HP → Nat → Option ρ) → Option ρ)

noncomputable def aheadOp (t : TN) (H : List Ob) (hp : HP) (n : Nat) (o : Oper) : Option SV :=
  cond (tame o.op && nearN t o.op) (opTab o.op SV E (opdN t) hp n (callOp E (natCall E) (fun _ _ _ _ _ _ _ => none) (opdN t) H hp n fun out _ => cond out.wr.isEmpty out.v.sv none) fun out => cond out.wr.isEmpty out.v.sv none) none
noncomputable def sideN (t : TN) (c : Operand) (b : Bool) : TN := match c with | .tmp i => effN t (chainN t 4 i b) | _ => t
noncomputable def pickN {α : Type} (t : TN) (c x y : Operand) (K : NV → Option α) : Option α :=
  ob (opdN t c) fun cv => ob cv.bl fun b => ob (opdN (sideN t c true) x) fun xv => ob (opdN (sideN t c false) y) fun yv =>
    @Option.rec Bool (fun _ => Option α) (cond b (K xv) (K yv)) (fun p => @Option.rec Bool (fun _ => Option α) (cond b (K xv) (K yv)) (fun q => K (.bool (cond b p q))) yv.bl) xv.bl
noncomputable def aheadN (t : TN) (H : List Ob) (hp : HP) (n : Nat) (o : Oper) : Option SV := match o.op with
  | .pick c x y => pickN t c x y NV.sv
  | _ => aheadOp E t H hp n o
noncomputable def noGN (v : NV) : NV := unAll v

abbrev CT (ρ : Type) := TN → List Ob → HP → Nat → Option ρ
noncomputable def putM (N : Nat) (t : TN) (dst : Option Tmp) (v : NV) (K : TN → Option ρ) : Option ρ := @Option.rec Tmp (fun _ => Option ρ) (K t) (fun d => K (pushN N t d v)) dst
noncomputable def finM (N : Nat) (t : TN) (H : List Ob) (hp : HP) (n : Nat) (dst : Option Tmp) (cont : CT ρ) (out : OutN) (hq : Option HQ) : Option ρ := putM N t dst (noGN out.v) fun t => putHN out.wr hq H hp n fun H hp n => cont t H hp n
noncomputable def runM (N : Nat) (t : TN) (H : List Ob) (hp : HP) (n : Nat) (o : Oper) (cont : CT ρ) : Option ρ := match o.op with
  | .pick c x y => pickN t c x y fun v => putM N t o.dst (noGN v) fun t => cont t H hp n
  | _ => opTab o.op ρ E (opdN t) hp n (callOp E call body (opdN t) H hp n (finM N t H hp n o.dst cont)) fun out => finM N t H hp n o.dst cont out none
noncomputable def passM (N : Nat) (t : TN) (H : List Ob) (hp : HP) (n : Nat) (o : Oper) (cont : CT ρ) : Option ρ := putM N t o.dst (.tup []) fun t => cont t H hp n
noncomputable def splitM (N : Nat) (t : TN) (H : List Ob) (hp : HP) (n : Nat) (o : Oper) (g : Nat × Bool) (cont : CT ρ) (b : Bool) : Option ρ :=
  cond b (cond g.2 (runM E call body N (settleN t g.1 true) H hp n o cont) (passM N (settleN t g.1 true) H hp n o cont)) (cond g.2 (passM N (settleN t g.1 false) H hp n o cont) (runM E call body N (settleN t g.1 false) H hp n o cont))
noncomputable def stepMN (ops : Array Oper) (N : Nat) (o : Oper) (H : List Ob) (hp : HP) (n : Nat) (cont : CT ρ) : Nat → TN → Option ρ
  | 0, _ => none
  | k + 1, t => match o.guard with
    | none => runM E call body N t H hp n o cont
    | some _ => ob (guardTmp ops o) fun g => ob (t g.1) fun gv => cond (isTup gv) (passM N t H hp n o cont)
        (@Option.rec SV (fun _ => Option ρ)
          (@Option.rec GV (fun _ => Option ρ) (ob gv.bl fun b => splitM E call body N t H hp n o g cont b)
            (fun _ => ob (ob (t (rootN t 4 g.1)) NV.bl) fun b => cond b (stepMN ops N o H hp n cont k (settleN t (rootN t 4 g.1) true)) (stepMN ops N o H hp n cont k (settleN t (rootN t 4 g.1) false))) (gvN gv))
          (fun x => cond (o.dst == some g.1) none (putM N t o.dst (.other (.g g.1 g.2 x)) fun t => cont t H hp n)) (aheadN E (effN t (chainN t 4 g.1 g.2)) H hp n o))
noncomputable def opsMN (ops : Array Oper) (N : Nat) : List Oper → CT ρ → CT ρ
  | [], K => K
  | o :: rest, K => fun t H hp n => stepMN E call body ops N o H hp n (opsMN ops N rest K) 4 t

noncomputable def codeM (N : Nat) : Code → TN → List Ob → HP → Nat → (X → TN → List Ob → HP → Nat → Option ρ) → Option ρ
  | .skip, t, H, hp, n, K => K .normal t H hp n
  | .region id ops draw, t, H, hp, n, K => cond (E.cut id) none (cond draw (opsNL E call body ops N ops.toList t H hp n [] fun t H hp n lg => cond (indepAll ops lg) (K .normal t H hp n) none) (opsMN E call body ops N ops.toList (K .normal) (tidyN t) H hp n))
  | .seq a b, t, H, hp, n, K => codeM N a t H hp n fun e t' H' hp' n' => match e with | .normal => codeM N b t' H' hp' n' K | e => K e t' H' hp' n'
  | .cond c x y, t, H, hp, n, K => ob (opdN t c) fun v => ob v.bl fun b => cond b (codeM N x t H hp n K) (codeM N y t H hp n K)
  | .block id c, t, H, hp, n, K => codeM N c t H hp n fun e t' H' hp' n' => match e with | .exit id' => cond (Nat.beq id' id) (K .normal t' H' hp' n') (K (.exit id') t' H' hp' n') | e => K e t' H' hp' n'
  | .loop c, t, H, hp, n, K => codeM N c t H hp n fun e t' H' hp' n' => match e with | .normal => body N (.loop c) t' H' hp' n' K | e => K e t' H' hp' n'
  | .exit id, t, H, hp, n, K => K (.exit id) t H hp n
  | .ret, t, H, hp, n, K => K .ret t H hp n
  | _, _, _, _, _, _ => none
end
/-- No operation writes what guards an earlier one. -/
def okOps (ops : Array Oper) : List Oper → List Nat → Bool
  | [], _ => true
  | o :: rest, gs => (match o.dst with | some d => !gs.contains d | none => true) && okOps ops rest (match guardTmp ops o with | some g => g.1 :: gs | none => gs)
def okCode : Code → Bool
  | .region _ ops draw => draw || okOps ops ops.toList []
  | .seq a b => okCode a && okCode b
  | .cond _ x y => okCode x && okCode y
  | .block _ c => okCode c
  | .loop c => okCode c
  | _ => true
noncomputable def fnM (E : Env) (n : Nat) (f : FuncId) (args : List SV) : Option (RTup (rks E f)) :=
  (E.P.funcs[f]?).bind fun fn => fn.body.bind fun c => codeM E ((fun f args => match E.nat f args with | some (_, cs) => decR (rks E f) cs | none => fnV E n f args)) (fun _ _ _ _ _ _ _ => none) (lenT fn args) c (initN args (lenT fn args)) [] (Hp []) 0 fun e t _ hp _ => match e with
    | .exit _ => none
    | _ => resN E t hp fn.results.toList fn.resultTypes.toList fun vs => (cellsAll vs).bind fun cs => outCsQ hp [] (rks E f) cs
end Go.Ev
