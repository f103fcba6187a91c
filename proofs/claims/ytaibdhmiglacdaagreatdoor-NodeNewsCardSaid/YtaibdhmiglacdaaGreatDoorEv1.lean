/-
  The abstract values of a pure evaluator of the model's code, and what an abstract value says of memory.
  The operations of the pure evaluator: what each makes of abstract values and of the abstract heap, with what it reads and writes there.
  The operations again, each in a text of its own: the same, and lighter to compute with.
  The pure evaluator of code: regions, control, calls.
  What abstract values say of memory is kept by steps that leave their memory as it is.
  Steps of the machine's memory, and what becomes of the abstract heap.
  What it means that an operation does what the evaluator says; the operations that make only values.
  Operators.
  Addresses, loads, parts.
  Parts of values, slices of strings and slices, lengths, built values.
  New objects, built values.
  Operations that make or write objects.
-/
import Derived.Tactics
import Derived.Below
import Derived.KernelRfl
import Derived.Laws.StructEq
import Derived.ChangeKeysEq

namespace Go.Ev
open Go

/-- One cell that is read alone: an exact value, or a read-only slice by its elements (s cells each; nn: known not to be nil). -/
inductive PC where
  | v (x : Value)
  | sl (s : Nat) (nn : Bool) (es : List (List PC))
  deriving Inhabited

/-- One cell: read-only; a slice of an object of the abstract heap; an address into a box; into an array's element; into read-only memory; a closure. -/
inductive C where
  | p (x : PC)
  | own (slot off len : Nat)
  | bp (slot off : Nat)
  | ap (slot i off : Nat)
  | rp (e : List PC) (off : Nat)
  | clo (f : FuncId) (caps : List C)
  deriving Inhabited

/-- A value: unknown; of one cell; of cells. -/
inductive SV where
  | dead
  | one (c : C)
  | agg (cs : List C)
  | pagg (cs : List PC)
  deriving Inhabited

/-- A temporary: a value; a call's results; a value under a guard: where temporary t holds 'want', it is x. -/
inductive AV where
  | s (x : SV)
  | tup (l : List SV)
  | g (t : Nat) (want : Bool) (x : SV)
  deriving Inhabited

/-- An object of the abstract heap: gone; a variable (its cells; s: the stride of a slice over it); an array of read-only elements (fz: never written any more). -/
inductive Ob where
  | void
  | dead
  | box (s : Nat) (cs : List C)
  | arr (s : Nat) (fz : Bool) (es : List (List PC))
  deriving Inhabited

structure St where
  tmps : List AV
  heap : List Ob
  deriving Inhabited

def hget (H : List Ob) (i : Nat) : Ob := H[i]?.getD .void
def tget (tm : List AV) (i : Nat) : AV := tm[i]?.getD (.s .dead)

/-- Where an object lies: its block, and the first cell. -/
abbrev Kap := Nat → Option (Nat × Nat)

inductive PRep (R : Nat → Prop) (w : World) : PC → Value → Prop where
  | v (x : Value) : x.oneCell' = true → PRep R w (.v x) x
  | sl (s : Nat) (nn : Bool) (es : List (List PC)) (A : Option Addr) (len cap : Nat) (f : Nat → Nat → Value) (b o : Nat) :
      len = es.length → len ≤ cap → (nn = true → A ≠ none) → (A = none → cap = 0) →
      (es ≠ [] → A = some ⟨b, o, none⟩ ∧ R b) →
      (∀ (i : Nat) (e : List PC), es[i]? = some e → e.length = s ∧ ∀ j, j < s → w.cell? ⟨b, o + i * s + j, none⟩ = some (f i j)) →
      (∀ (i : Nat) (e : List PC) (j : Nat) (c : PC), es[i]? = some e → e[j]? = some c → PRep R w c (f i j)) →
      PRep R w (.sl s nn es) (.slice A len cap)

/-- An object's kind. -/
def Ob.like : Ob → Ob → Prop
  | .box s cs, .box s' cs' => s = s' ∧ cs.length = cs'.length
  | .arr s _ _, .arr s' _ _ => s = s'
  | _, _ => False

def hasCells (w : World) (b n : Nat) : Prop := ∃ c t fr, w.heap[b]? = some (.cells c t fr) ∧ n ≤ c.size

/-- An object's stride. -/
def Ob.stride : Ob → Option Nat
  | .box s _ => some s
  | .arr s _ _ => some s
  | _ => none

inductive CRep (κ : Kap) (R : Nat → Prop) (h : Nat → Ob) (w : World) : C → Value → Prop where
  | p (x : PC) (y : Value) : PRep R w x y → CRep κ R h w (.p x) y
  | ownDead (slot off len : Nat) (y : Value) : h slot = .dead → y.oneCell' = true → CRep κ R h w (.own slot off len) y
  | own (slot off len cap : Nat) (A : Option Addr) (s : Nat) :
      (h slot).stride = some s → len ≤ cap → (A = none → cap = 0) →
      (cap = 0 ∨ ∃ b o, κ slot = some (b, o) ∧ A = some ⟨b, o + off * s, none⟩ ∧ hasCells w b (o + (off + cap) * s)) →
      CRep κ R h w (.own slot off len) (.slice A len cap)
  | bpDead (slot off : Nat) (a : Addr) : h slot = .dead → CRep κ R h w (.bp slot off) (.pointer (some a))
  | bp (slot off b o s : Nat) : (h slot).stride = some s → κ slot = some (b, o) → CRep κ R h w (.bp slot off) (.pointer (some ⟨b, o + off, none⟩))
  | apDead (slot i off : Nat) (a : Addr) : h slot = .dead → CRep κ R h w (.ap slot i off) (.pointer (some a))
  | ap (slot i off b o s : Nat) : (h slot).stride = some s → κ slot = some (b, o) → CRep κ R h w (.ap slot i off) (.pointer (some ⟨b, o + i * s + off, none⟩))
  | rp (e : List PC) (off b o : Nat) (f : Nat → Value) : R b → (∀ (j : Nat) (c : PC), e[j]? = some c → w.cell? ⟨b, o + j, none⟩ = some (f j)) →
      (∀ (j : Nat) (c : PC), e[j]? = some c → PRep R w c (f j)) → CRep κ R h w (.rp e off) (.pointer (some ⟨b, o + off, none⟩))
  | clo (f : FuncId) (caps : List C) (vs : List Value) : caps.length = vs.length → (∀ (i : Nat) (c : C) (v : Value), caps[i]? = some c → vs[i]? = some v → CRep κ R h w c v) →
      CRep κ R h w (.clo f caps) (.func (.func f) #[] vs.toArray)

/-- Lists of cells. -/
def CReps (κ : Kap) (R : Nat → Prop) (h : Nat → Ob) (w : World) (cs : List C) (ys : List Value) : Prop :=
  cs.length = ys.length ∧ ∀ (i : Nat) (c : C) (y : Value), cs[i]? = some c → ys[i]? = some y → CRep κ R h w c y
def PReps (R : Nat → Prop) (w : World) (cs : List PC) (ys : List Value) : Prop :=
  cs.length = ys.length ∧ ∀ (i : Nat) (c : PC) (y : Value), cs[i]? = some c → ys[i]? = some y → PRep R w c y

def SRep (κ : Kap) (R : Nat → Prop) (h : Nat → Ob) (w : World) : SV → Value → Prop
  | .dead, _ => True
  | .one c, y => CRep κ R h w c y
  | .agg cs, y => ∃ ys : List Value, y = .agg ys.toArray ∧ CReps κ R h w cs ys
  | .pagg cs, y => ∃ ys : List Value, y = .agg ys.toArray ∧ PReps R w cs ys

def VRep (κ : Kap) (R : Nat → Prop) (h : Nat → Ob) (w : World) : AV → Value → Prop
  | .s x, y => SRep κ R h w x y
  | .tup l, y => ∃ ys : List Value, y = .tuple ys.toArray ∧ l.length = ys.length ∧ ∀ (i : Nat) (x : SV) (y : Value), l[i]? = some x → ys[i]? = some y → SRep κ R h w x y
  | .g _ _ _, _ => True

/-- No cell is a string's. -/
def thawed (c : Array Value) (fr : Nat × Nat) : Prop := ∀ j, j < c.size → ¬ (fr.1 ≤ j ∧ j < fr.2)

/-- What is known of an object. -/
def ObRep (κ : Kap) (R : Nat → Prop) (h : Nat → Ob) (w : World) (slot : Nat) : Ob → Prop
  | .void => True
  | .dead => True
  | .box _ cs => ∃ (b o : Nat) (c : Array Value) (t : TypeId) (fr : Nat × Nat), κ slot = some (b, o) ∧ w.heap[b]? = some (.cells c t fr) ∧ thawed c fr ∧ ¬ R b ∧
      o + cs.length ≤ c.size ∧ ∀ (j : Nat) (x : C), cs[j]? = some x → ∃ y, c[o + j]? = some y ∧ CRep κ R h w x y
  | .arr s fz es => (κ slot = none ∧ es = []) ∨ ∃ (b o : Nat) (c : Array Value) (t : TypeId) (fr : Nat × Nat), κ slot = some (b, o) ∧ w.heap[b]? = some (.cells c t fr) ∧ thawed c fr ∧ (fz = true → R b) ∧ (fz = false → ¬ R b) ∧
      o + es.length * s ≤ c.size ∧ ∀ (i : Nat) (e : List PC), es[i]? = some e → e.length = s ∧ ∀ (j : Nat) (x : PC), e[j]? = some x → ∃ y, c[o + i * s + j]? = some y ∧ PRep R w x y

/-- An object that may be written. -/
def Ob.live : Ob → Bool
  | .void => false
  | .dead => false
  | .box _ _ => true
  | .arr _ fz _ => !fz

/-- What the package-level variables hold that are read. -/
def GRep (G : Nat → Option (List PC)) (R : Nat → Prop) (w : World) : Prop :=
  ∀ (g : Nat) (e : List PC), G g = some e → R g ∧ ∀ (j : Nat) (c : PC), e[j]? = some c → ∃ y, w.cell? ⟨g, j, none⟩ = some y ∧ PRep R w c y

structure HRep (G : Nat → Option (List PC)) (κ : Kap) (R : Nat → Prop) (h : Nat → Ob) (w : World) : Prop where
  obs : ∀ slot : Nat, ObRep κ R h w slot (h slot)
  inj : ∀ (i j b o o' : Nat), (h i).live = true → (h j).live = true → κ i = some (b, o) → κ j = some (b, o') → i = j
  old : ∀ b, R b → b < w.heap.size
  glob : GRep G R w

/-- The abstract state holds of the machine's. -/
structure Rel (G : Nat → Option (List PC)) (κ : Kap) (R : Nat → Prop) (N : Nat) (t : Nat → AV) (h : Nat → Ob) (a : Act) (w : World) : Prop where
  defers : a.defers = []
  size : a.tmps.size = N
  tmps : ∀ (i : Nat) (y : Value), a.tmps[i]? = some y → VRep κ R h w (t i) y
  heap : HRep G κ R h w

/-- What a step keeps. -/
structure Ext (κ : Kap) (R : Nat → Prop) (h : Nat → Ob) (w : World) (κ' : Kap) (R' : Nat → Prop) (h' : Nat → Ob) (w' : World) : Prop where
  r : ∀ b, R b → R' b
  cells : ∀ b, R b → w'.heap[b]? = w.heap[b]?
  size : ∀ (b : Nat) (c : Array Value) (t : TypeId) (fr : Nat × Nat), w.heap[b]? = some (Obj.cells c t fr) → ∃ (c' : Array Value) (fr' : Nat × Nat), w'.heap[b]? = some (Obj.cells c' t fr') ∧ c'.size = c.size
  slot : ∀ s : Nat, h s = .void ∨ h' s = .dead ∨ (κ' s = κ s ∧ (h' s).stride = (h s).stride ∧ h s ≠ .dead)

structure Fr (κ : Kap) (R : Nat → Prop) (h : Nat → Ob) (w : World) (κ' : Kap) (R' : Nat → Prop) (h' : Nat → Ob) (w' : World) : Prop where
  ext : Ext κ R h w κ' R' h' w'
  os : w'.os = w.os
  tape : w'.tape = w.tape
  output : w'.output = w.output
  grow : w.heap.size ≤ w'.heap.size
  keep : ∀ b, b < w.heap.size → (∀ s o, (h s).live = true → κ s ≠ some (b, o)) → w'.heap[b]? = w.heap[b]?
  new : ∀ s b o, (h' s).live = true → κ' s = some (b, o) → w.heap.size ≤ b ∨ ∃ s' o', (h s').live = true ∧ κ s' = some (b, o')
  newR : ∀ b, R' b → R b ∨ w.heap.size ≤ b ∨ ∃ s' o', (h s').live = true ∧ κ s' = some (b, o')

end Go.Ev

namespace Go.Ev
open Go

/-- The kind of a cell, and what a cell of that kind holds. -/
inductive Kind where
  | int (k : IntKind)
  | bool
  | str
  | list (s : Nat)
  | any
  deriving DecidableEq, Inhabited

def Kind.T : Kind → Type
  | .int _ => Int
  | .bool => Bool
  | .str => ByteArray
  | .list _ => List (List PC)
  | .any => PC

def Kind.dec : (k : Kind) → PC → Option k.T
  | .int k, .v (.int k' n) => if k = k' then some n else none
  | .bool, .v (.bool b) => some b
  | .str, .v (.string s) => some s
  | .list s, .sl s' _ es => if s = s' then some es else none
  | .list _, .v (.slice none 0 0) => some []
  | .any, c => some c
  | _, _ => none

def Kind.enc : (k : Kind) → k.T → PC
  | .int k, n => .v (.int k n)
  | .bool, b => .v (.bool b)
  | .str, s => .v (.string s)
  | .list s, es => .sl s false es
  | .any, c => c

def Tup : List Kind → Type
  | [] => Unit
  | k :: ks => k.T × Tup ks

def decs : (ks : List Kind) → List PC → Option (Tup ks)
  | [], [] => some ()
  | k :: ks, c :: cs => (k.dec c).bind fun x => (decs ks cs).bind fun t => some (x, t)
  | _, _ => none

def encs : (ks : List Kind) → Tup ks → List PC
  | [], _ => []
  | k :: ks, t => k.enc t.1 :: encs ks t.2

/-- The kinds of a type's cells. -/
def kinds (P : Program) : Nat → TypeId → Option (List Kind)
  | 0, _ => none
  | n + 1, t =>
    match P.underlying t with
    | some .bool => some [.bool]
    | some (.int k) => some [.int k]
    | some .string => some [.str]
    | some (.slice e) => (P.info? e).map fun i => [.list i.size]
    | some (.struct fs) => fs.toList.foldr (fun f acc => (kinds P n f.type).bind fun l => acc.map fun r => l ++ r) (some [])
    | some (.array m e) => (kinds P n e).map fun l => (List.replicate m l).flatten
    | some _ => some [.any]
    | none => none


/-- A result's cell: of a kind; a slice in new memory. -/
inductive RK where
  | rd (q : Kind)
  | fr (s : Nat)
  deriving DecidableEq, Inhabited

structure Env where
  P : Program
  /-- what a package-level variable holds -/
  G : Nat → Option (List PC)
  /-- results that are not what their types say: slices that are shared with the arguments -/
  rk : FuncId → Option (List RK)
  /-- functions that only read through the pointers they are handed -/
  peek : FuncId → Bool
  /-- functions that are walked in the caller's own heap -/
  inl : FuncId → Bool
  /-- types of elements whose arrays may hold slices or addresses of the heap -/
  mix : TypeId → Bool
  /-- functions whose law is known: where that is asked, a condition; the cells of their results -/
  nat : FuncId → List SV → Option (Option Bool × List PC)
  /-- regions that are not walked -/
  cut : Nat → Bool
  /-- guarded operations are merged -/
  merge : Bool

inductive Reg where
  | box (slot off n : Nat)
  | obj (slot : Nat)
  | all
  deriving Inhabited

inductive Wr where
  | box (slot off : Nat) (cs : List C)
  | obj (slot : Nat) (o : Ob)
  | heap (H : List Ob)
  deriving Inhabited

structure Out where
  v : AV
  wr : List Wr
  rd : List Reg
  nb : Nat
  deriving Inhabited

def splice {α : Type} (l : List α) (off : Nat) (x : List α) : List α := l.take off ++ (x ++ l.drop (off + x.length))

def boxGet (H : List Ob) (slot off n : Nat) : Option (List C) :=
  match H[slot]? with
  | some (.box _ cs) => if off + n ≤ cs.length then some ((cs.drop off).take n) else none
  | _ => none

def Wr.put (H : List Ob) : Wr → List Ob
  | .box slot off x => match H[slot]? with
    | some (.box s cs) => if off + x.length ≤ cs.length then H.set slot (.box s (splice cs off x)) else H
    | _ => H
  | .obj slot o => if slot < H.length then H.set slot o else H ++ (List.replicate (slot - H.length) .void ++ [o])
  | .heap H' => H'

/-- The same, where the heap is a function. -/
def Wr.putF (h : Nat → Ob) : Wr → Nat → Ob
  | .box slot off x => match h slot with
    | .box s cs => if off + x.length ≤ cs.length then fun i => if i = slot then .box s (splice cs off x) else h i else h
    | _ => h
  | .obj slot o => fun i => if i = slot then o else h i
  | .heap H' => hget H'
def putsF (h : Nat → Ob) (ws : List Wr) : Nat → Ob := ws.foldl Wr.putF h

def puts (H : List Ob) (ws : List Wr) : List Ob := ws.foldl Wr.put H

def putTF (N : Nat) (t : Nat → AV) (dst : Option Tmp) (v : AV) : Nat → AV := match dst with
  | some d => fun i => if i = d ∧ d < N then v else t i
  | none => t

inductive RegVal where
  | box (cs : Option (List C))
  | obj (o : Option Ob)
  | all (H : List Ob)

def boxGetF (h : Nat → Ob) (slot off n : Nat) : Option (List C) :=
  match h slot with
  | .box _ cs => if off + n ≤ cs.length then some ((cs.drop off).take n) else none
  | _ => none

inductive RegValF where
  | box (cs : Option (List C))
  | obj (o : Ob)
  | all (h : Nat → Ob)

def Reg.getF (h : Nat → Ob) : Reg → RegValF
  | .box slot off n => .box (boxGetF h slot off n)
  | .obj slot => .obj (h slot)
  | .all => .all h

def Reg.get (H : List Ob) : Reg → RegVal
  | .box slot off n => .box (boxGet H slot off n)
  | .obj slot => .obj H[slot]?
  | .all => .all H

def isAggD : TypeDesc → Bool
  | .struct _ | .array _ _ => true
  | _ => false

section
variable (P : Program)
def szOf (t : TypeId) : Option Nat := (P.info? t).map (·.size)
def aggT (t : TypeId) : Option Bool := (P.underlying t).map isAggD
def elemT (t : TypeId) : Option TypeId := match P.underlying t with | some (.slice e) => some e | _ => none
def zeroCells (t : TypeId) : Option (List Value) := ((P.info? t).bind (·.zero)).bind fun v => if v.cells.toList.all (·.oneCell') then some v.cells.toList else none
end

def ofValue : Value → AV
  | .agg cs => if cs.toList.all (·.oneCell') then .s (.pagg (cs.toList.map .v)) else .s .dead
  | .tuple _ => .s .dead
  | v => .s (.one (.p (.v v)))

def operand (tm : List AV) : Operand → Option AV
  | .tmp t => tm[t]?
  | .const v => some (ofValue v)
  | .global g => some (.s (.one (.p (.v (.pointer (some ⟨g, 0, none⟩))))))
  | .func f => some (.s (.one (.clo f [])))

def AV.val : AV → Option Value
  | .s (.one (.p (.v x))) => some x
  | _ => none
def AV.sv : AV → Option SV
  | .s x => some x
  | _ => none
def SV.cells : SV → Option (List C)
  | .dead => none
  | .one c => some [c]
  | .agg cs => some cs
  | .pagg cs => some (cs.map .p)

def C.pc : C → Option PC
  | .p x => some x
  | _ => none
def pcs (l : List C) : Option (List PC) := l.mapM C.pc

def SV.pcells : SV → Option (List PC)
  | .pagg cs => some cs
  | .one (.p x) => some [x]
  | .agg cs => pcs cs
  | _ => none

/-- The value of a variable's cells. -/
def mkP (agg : Bool) (cs : List PC) : Option SV := match agg, cs with
  | true, cs => some (.pagg cs)
  | false, [c] => some (.one (.p c))
  | _, _ => none
def mkC (agg : Bool) (cs : List C) : Option SV := match agg, cs with
  | true, cs => some (match pcs cs with | some l => .pagg l | none => .agg cs)
  | false, [c] => some (.one c)
  | _, _ => none

def goI (n : Nat) : AV := .s (.one (.p (.v (.int .i64 n))))
def ints (k : IntKind) (n : Int) : AV := .s (.one (.p (.v (.int k n))))
def boolV (b : Bool) : AV := .s (.one (.p (.v (.bool b))))

/-- Integers. -/
def binInt {ρ : Type} (op : BinOp) (k : IntKind) (a b : Int) (K : AV → Option ρ) : Option ρ :=
  match op with
  | .add => K (ints k (k.wrap (a + b)))
  | .sub => K (ints k (k.wrap (a - b)))
  | .mul => K (ints k (k.wrap (a * b)))
  | .quo => cond (b == 0) none (K (ints k (k.wrap (a.tdiv b))))
  | .rem => cond (b == 0) none (K (ints k (a.tmod b)))
  | .and => K (ints k (k.wrap (BitVec.ofInt k.bits a &&& BitVec.ofInt k.bits b).toNat))
  | .or => K (ints k (k.wrap (BitVec.ofInt k.bits a ||| BitVec.ofInt k.bits b).toNat))
  | .xor => K (ints k (k.wrap (BitVec.ofInt k.bits a ^^^ BitVec.ofInt k.bits b).toNat))
  | .andNot => K (ints k (k.wrap (BitVec.ofInt k.bits a &&& ~~~ BitVec.ofInt k.bits b).toNat))
  | .eql => K (boolV (a == b))
  | .neq => K (boolV (a != b))
  | .lss => K (boolV (decide (a < b)))
  | .leq => K (boolV (decide (a ≤ b)))
  | .gtr => K (boolV (decide (a > b)))
  | .geq => K (boolV (decide (a ≥ b)))
  | _ => none

def binShift {ρ : Type} (op : BinOp) (k : IntKind) (a b : Int) (K : AV → Option ρ) : Option ρ :=
  cond (decide (b < 0)) none <| match op with
  | .shl => K (ints k (k.wrap (a * 2 ^ (min b.toNat k.bits))))
  | .shr => K (ints k (a.fdiv (2 ^ (min b.toNat k.bits))))
  | _ => none

def binStr {ρ : Type} (op : BinOp) (a b : ByteArray) (K : AV → Option ρ) : Option ρ :=
  match op with
  | .add => cond (decide (a.size + b.size ≤ 9223372036854775807)) (K (.s (.one (.p (.v (.string (a ++ b))))))) none
  | .eql => K (boolV (a.toList == b.toList))
  | .neq => K (boolV (!(a.toList == b.toList)))
  | .lss => K (boolV (Op.bytesLess a.toList b.toList))
  | .leq => K (boolV (Op.bytesLess a.toList b.toList || a.toList == b.toList))
  | .gtr => K (boolV (!(Op.bytesLess a.toList b.toList || a.toList == b.toList)))
  | .geq => K (boolV (!(Op.bytesLess a.toList b.toList)))
  | _ => none

/-- Two values of a type, by their cells. -/
def eqFs (eq : TypeId → List PC → List PC → Option Bool) (sz : TypeId → Option Nat) (xs ys : List PC) : List Field → Option Bool
  | [] => some true
  | f :: fs => if f.name = "_" then none else (sz f.type).bind fun s => if f.offset + s ≤ xs.length ∧ f.offset + s ≤ ys.length then
      (eq f.type ((xs.drop f.offset).take s) ((ys.drop f.offset).take s)).bind fun x =>
        (match fs with
        | [] => some x
        | _ => (eqFs eq sz xs ys fs).bind fun y => some (x && y)) else none
def eqIs (eq : List PC → List PC → Option Bool) (s : Nat) (xs ys : List PC) : List Nat → Option Bool
  | [] => some true
  | i :: is => if i * s + s ≤ xs.length ∧ i * s + s ≤ ys.length then
      (eq ((xs.drop (i * s)).take s) ((ys.drop (i * s)).take s)).bind fun x => (eqIs eq s xs ys is).bind fun y => some (x && y) else none
def eqT (P : Program) : Nat → TypeId → List PC → List PC → Option Bool
  | 0, _, _, _ => none
  | n + 1, t, xs, ys => match P.underlying t, xs, ys with
    | some (.int _), [.v (.int k a)], [.v (.int k' b)] => if k = k' then some (a == b) else none
    | some .bool, [.v (.bool a)], [.v (.bool b)] => some (a == b)
    | some .string, [.v (.string a)], [.v (.string b)] => some (a.toList == b.toList)
    | some (.struct fs), xs, ys => if P.stoodInHeld t then none else eqFs (eqT P n) (szOf P) xs ys fs.toList
    | some (.array m e), xs, ys => (szOf P e).bind fun s => eqIs (eqT P n e) s xs ys (List.range m)
    | _, _, _ => none

/-- A type whose equality is its scalars'. -/
def eqFlat (P : Program) : Nat → TypeId → Bool
  | 0, _ => false
  | n + 1, t => match P.underlying t with
    | some .bool | some (.int _) | some .string => true
    | some (.struct fs) => fs.all fun f => eqFlat P n f.type
    | some (.array _ e) => eqFlat P n e
    | _ => false

/-- nil against a slice, a pointer. -/
def nilSl : C → Option Bool
  | .p (.v (.slice none _ _)) => some true
  | .p (.v (.slice (some _) _ _)) => some false
  | .p (.sl _ true _) => some false
  | .p (.sl _ false (_ :: _)) => some false
  | _ => none
def nilPtr : C → Option Bool
  | .p (.v (.pointer none)) => some true
  | .p (.v (.pointer (some _))) => some false
  | .bp _ _ => some false
  | .ap _ _ _ => some false
  | .rp _ _ => some false
  | _ => none
/-- Not nil, of a pointer or a function. -/
def notNil : C → Bool
  | .p (.v (.pointer (some _))) => true
  | .bp _ _ => true
  | .ap _ _ _ => true
  | .rp _ _ => true
  | .clo _ _ => true
  | _ => false

def C.isPtrNil : C → Bool | .p (.v (.pointer none)) => true | _ => false
def C.isSlNil : C → Bool | .p (.v (.slice none _ _)) => true | _ => false

def binAny {ρ : Type} (P : Program) (op : BinOp) (t : TypeId) (x y : AV) (K : AV → Option ρ) : Option ρ :=
  match x, y with
  | .s (.one (.p (.v (.int k a)))), .s (.one (.p (.v (.int k' b)))) =>
    (match op with
    | .shl | .shr => binShift op k a b K
    | _ => if k = k' then binInt op k a b K else none)
  | .s (.one (.p (.v (.string a)))), .s (.one (.p (.v (.string b)))) => binStr op a b K
  | .s (.one (.p (.v (.bool a)))), .s (.one (.p (.v (.bool b)))) =>
    (match op, P.underlying t with
    | .eql, some .bool => K (boolV (a == b))
    | .neq, some .bool => K (boolV (!(a == b)))
    | _, _ => none)
  | .s (.pagg a), .s (.pagg b) =>
    (match op with
    | .eql => if eqFlat P 8 t && aggT P t == some true then (eqT P 8 t a b).bind fun r => K (boolV r) else none
    | .neq => if eqFlat P 8 t && aggT P t == some true then (eqT P 8 t a b).bind fun r => K (boolV (!r)) else none
    | _ => none)
  | .s (.one a), .s (.one b) =>
    (match P.underlying t, op with
    | some (.slice _), .eql => if b.isSlNil then (nilSl a).bind fun r => K (boolV r) else none
    | some (.slice _), .neq => if b.isSlNil then (nilSl a).bind fun r => K (boolV (!r)) else none
    | some (.pointer _), .eql => if b.isPtrNil then (nilPtr a).bind fun r => K (boolV r) else none
    | some (.pointer _), .neq => if b.isPtrNil then (nilPtr a).bind fun r => K (boolV (!r)) else none
    | _, _ => none)
  | _, _ => none

def unAny {ρ : Type} (op : UnOp) (x : AV) (K : AV → Option ρ) : Option ρ :=
  match op, x with
  | .neg, .s (.one (.p (.v (.int k n)))) => K (ints k (k.wrap (0 - n)))
  | .not, .s (.one (.p (.v (.bool b)))) => K (boolV (!b))
  | _, _ => none

/-- The choice between two values. -/
def pickV {ρ : Type} (c : Bool) (a b : AV) (K : AV → Option ρ) : Option ρ :=
  match a, b with
  | .s (.one (.p (.v (.bool x)))), .s (.one (.p (.v (.bool y)))) => K (boolV (cond c x y))
  | a, b => cond c (K a) (K b)

/-- Parts laid into cells. -/
def fillC (place : Nat → Option (Nat × Nat)) (cells : List C) : List (Nat × SV) → Option (List C)
  | [] => some cells
  | (i, v) :: rest => (place i).bind fun p => v.cells.bind fun cs =>
    if cs.length = p.2 ∧ p.1 + p.2 ≤ cells.length then fillC place (splice cells p.1 cs) rest else none

def parts (tm : List AV) (ps : List (Nat × Operand)) : Option (List (Nat × SV)) :=
  ps.mapM fun p => (operand tm p.2).bind fun v => v.sv.map fun s => (p.1, s)

def chunk {α : Type} (s : Nat) : Nat → List α → List (List α)
  | 0, _ => []
  | n + 1, l => l.take s :: chunk s n (l.drop s)

/-- A value of type t, read out of cells that are read alone. -/
def takeP {ρ : Type} (E : Env) (t : TypeId) (n : Nat) (agg : Bool) (e : List PC) (off : Nat) (K : SV → Option ρ) : Option ρ :=
  (kinds E.P 8 t).bind fun ks => if ks.length = n then (decs ks ((e.drop off).take n)).bind fun tup => (mkP agg (encs ks tup)).bind K else none

/-- What a pointer leads to is read (n cells of a variable of type t). -/
def loadAt {ρ : Type} (E : Env) (H : List Ob) (t : TypeId) (x : C) (K : SV → List Reg → Option ρ) : Option ρ :=
  (szOf E.P t).bind fun n => (aggT E.P t).bind fun agg =>
  match x with
  | .bp slot off => (boxGet H slot off n).bind fun cs => (mkC agg cs).bind fun v => K v [.box slot off n]
  | .ap slot i off => (match H[slot]? with
    | some (.arr _ _ es) => es[i]?.bind fun e => takeP E t n agg e off fun v => K v [.obj slot]
    | _ => none)
  | .rp e off => takeP E t n agg e off fun v => K v []
  | .p (.v (.pointer (some ⟨g, off, none⟩))) => (E.G g).bind fun e => takeP E t n agg e off fun v => K v []
  | _ => none

/-- A slice's elements, as they are now: stride, elements, what is read. -/
def elemsOf (H : List Ob) (s : Nat) : C → Option (List (List PC) × List Reg)
  | .p (.v (.slice none 0 0)) => some ([], [])
  | .p (.sl s' _ es) => if s = s' then some (es, []) else none
  | .own slot off len => (match H[slot]? with
    | some (.arr s' _ es) => if s = s' ∧ off + len ≤ es.length then some ((es.drop off).take len, [.obj slot]) else none
    | _ => none)
  | _ => none

def lenOf (H : List Ob) : C → Option (Nat × List Reg)
  | .p (.v (.slice _ n _)) => some (n, [])
  | .p (.sl _ _ es) => some (es.length, [])
  | .own slot _ len => (match H[slot]? with
    | some (.box _ _) => some (len, [.obj slot])
    | some (.arr _ _ _) => some (len, [.obj slot])
    | _ => none)
  | _ => none

/-- s[lo:hi] of strings and slices: the bounds. -/
def optI (tm : List AV) : Option Operand → Option (Option Int)
  | none => some none
  | some x => (operand tm x).bind fun v => v.val.bind fun u => match u with | .int _ n => some (some n) | _ => none

def sliceV {ρ : Type} (E : Env) (H : List Ob) (t : TypeId) (x : AV) (lo hi mx : Option Int) (K : AV → List Reg → Option ρ) : Option ρ :=
  match x with
  | .s (.one (.p (.v (.string b)))) =>
    (match E.P.underlying t, mx with
    | some .string, none =>
      let h := hi.getD b.size
      let l := lo.getD 0
      cond (decide (0 ≤ h) && decide (h ≤ b.size) && decide (0 ≤ l) && decide (l ≤ h)) (K (.s (.one (.p (.v (.string (b.extract l.toNat h.toNat)))))) []) none
    | _, _ => none)
  | .s (.one c) =>
    (match E.P.underlying t, mx with
    | some (.slice e), none => (szOf E.P e).bind fun s => (lenOf H c).bind fun ln =>
      let h := hi.getD ln.1
      let l := lo.getD 0
      cond (decide (0 ≤ l) && decide (l ≤ h) && decide (h ≤ ln.1)) (match c with
        | .p (.v (.slice none 0 0)) => K (.s (.one (.p (.v (.slice none 0 0))))) []
        | .p (.sl s' nn es) => if s = s' then K (.s (.one (.p (.sl s' nn ((es.drop l.toNat).take (h.toNat - l.toNat)))))) [] else none
        | .own slot off _ => if (hget H slot).stride = some s then K (.s (.one (.own slot (off + l.toNat) (h.toNat - l.toNat)))) ln.2 else none
        | _ => none) none
    | _, _ => none)
  | _ => none

/-- An address n cells on. -/
def C.shift (n : Nat) : C → Option C
  | .bp slot off => some (.bp slot (off + n))
  | .ap slot i off => some (.ap slot i (off + n))
  | .rp e off => some (.rp e (off + n))
  | .p (.v (.pointer (some ⟨b, o, none⟩))) => some (.p (.v (.pointer (some ⟨b, o + n, none⟩))))
  | _ => none

/-- The address of an element. -/
def indexAt {ρ : Type} (E : Env) (H : List Ob) (t : TypeId) (x : C) (i : Int) (K : C → List Reg → Option ρ) : Option ρ :=
  match E.P.underlying t with
  | some (.slice e) => (szOf E.P e).bind fun s =>
    (match x with
    | .p (.sl s' _ es) => if s = s' then cond (decide (0 ≤ i)) (es[i.toNat]?.bind fun e => K (.rp e 0) []) none else none
    | .own slot off len => (match H[slot]? with
      | some (.arr s' _ es) => if s = s' ∧ off + len ≤ es.length then cond (decide (0 ≤ i) && decide (i < len)) (K (.ap slot (off + i.toNat) 0) [.obj slot]) none else none
      | some (.box s' _) => if s = s' then cond (decide (0 ≤ i) && decide (i < len)) (K (.bp slot ((off + i.toNat) * s)) [.obj slot]) none else none
      | _ => none)
    | _ => none)
  | some (.array len e) => (szOf E.P e).bind fun s =>
    cond (decide (0 ≤ i) && decide (i < len)) ((x.shift (i.toNat * s)).bind fun c => K c []) none
  | _ => none

def fieldAt {ρ : Type} (E : Env) (t : TypeId) (x : C) (f : Nat) (K : C → Option ρ) : Option ρ :=
  match E.P.underlying t with
  | some (.struct fs) => fs[f]?.bind fun fd => (szOf E.P fd.type).bind fun s => if s = 0 then none else (x.shift fd.offset).bind K
  | _ => none

/-- A part of a value. -/
def partOf (E : Env) (t : TypeId) (x : AV) (off : Nat) : Option SV :=
  (szOf E.P t).bind fun n => (aggT E.P t).bind fun agg => match x with
  | .s (.pagg cs) => if off + n ≤ cs.length then mkP agg ((cs.drop off).take n) else none
  | .s (.agg cs) => if off + n ≤ cs.length then mkC agg ((cs.drop off).take n) else none
  | _ => none

def bytesPC (b : List UInt8) : List (List PC) := b.map fun x => [.v (.int .u8 x.toNat)]
def pcsByte : List PC → Option UInt8
  | [.v (.int .u8 n)] => some n.toNat.toUInt8
  | _ => none

/-- A cell as it is laid into an array that is read alone: a slice of the call's own is written no more. -/
def toP (H : List Ob) : C → Option (PC × List Wr × List Reg)
  | .p x => some (x, [], [])
  | .own slot off len => (match H[slot]? with
    | some (.arr s _ es) => if off + len ≤ es.length then some (.sl s false ((es.drop off).take len), [.obj slot (.arr s true es)], [.obj slot]) else none
    | _ => none)
  | _ => none
def toPs (H : List Ob) : List C → Option (List PC × List Wr × List Reg)
  | [] => some ([], [], [])
  | c :: cs => (toP H c).bind fun x => (toPs H cs).bind fun r => some (x.1 :: r.1, x.2.1 ++ r.2.1, x.2.2 ++ r.2.2)

def notIn (slot : Nat) (rd : List Reg) : Bool := rd.all fun q => match q with | .obj s => s != slot | _ => true

/-- What is stored through a pointer. -/
def storeAt {ρ : Type} (E : Env) (H : List Ob) (t : TypeId) (x : C) (v : SV) (K : List Wr → List Reg → Option ρ) : Option ρ :=
  (szOf E.P t).bind fun n =>
  match x with
  | .bp slot off => v.cells.bind fun cs => if cs.length = n then (boxGet H slot off n).bind fun _ => K [.box slot off cs] [.box slot off n] else none
  | .ap slot i off => v.cells.bind fun cl => (toPs H cl).bind fun cs => if cs.1.length = n then (match H[slot]? with
    | some (.arr s false es) => es[i]?.bind fun e => if off + n ≤ e.length ∧ notIn slot cs.2.2 = true then K (cs.2.1 ++ [.obj slot (.arr s false (es.set i (splice e off cs.1)))]) (.obj slot :: cs.2.2) else none
    | _ => none) else none
  | _ => none

/-- Which types' elements are read alone. -/
def bytesOfT (P : Program) (t : TypeId) : Option Nat := (P.info? t).map (·.bytes)

/-- append(x, elements..) where x is the call's own, or nil. -/
def appendTo {ρ : Type} (E : Env) (H : List Ob) (nb : Nat) (t : TypeId) (x : C) (new : List (List PC)) (rd : List Reg) (K : Out → Option ρ) : Option ρ :=
  (elemT E.P t).bind fun e => (szOf E.P e).bind fun s => (bytesOfT E.P e).bind fun by_ => (zeroCells E.P e).bind fun z => if z.length = s ∧ 0 < s ∧ 0 < by_ then
  (match x with
  | .p (.v (.slice none 0 0)) => cond (decide (new.length * by_ ≤ 140737488355328)) (K ⟨.s (.one (.own nb 0 new.length)), [.obj nb (.arr s false new)], rd, nb + 1⟩) none
  | .own slot off len => (match H[slot]? with
    | some (.arr s' false es) => if s = s' ∧ off + len ≤ es.length then
        cond (decide ((len + new.length) * by_ ≤ 140737488355328))
          (K ⟨.s (.one (.own nb 0 (len + new.length))), [.obj slot .dead, .obj nb (.arr s false ((es.drop off).take len ++ new))], .obj slot :: rd, nb + 1⟩) none else none
    | _ => none)
  | _ => none) else none

/-- The cells of a slice of any kind. -/
def cellsOf (H : List Ob) (s : Nat) : C → Option (Nat × List C × List Reg)
  | .p (.v (.slice none 0 0)) => some (0, [], [])
  | .p (.sl s' _ es) => if s = s' then some (es.length, es.flatten.map .p, []) else none
  | .own slot off len => (match H[slot]? with
    | some (.arr s' _ es) => if s = s' ∧ off + len ≤ es.length then some (len, ((es.drop off).take len).flatten.map .p, [.obj slot]) else none
    | some (.box s' cs) => if s = s' ∧ (off + len) * s ≤ cs.length then some (len, (cs.drop (off * s)).take (len * s), [.obj slot]) else none
    | _ => none)
  | _ => none

/-- append where the array may hold slices or addresses of the heap. -/
def appendBox {ρ : Type} (E : Env) (H : List Ob) (nb : Nat) (t : TypeId) (x y : C) (K : Out → Option ρ) : Option ρ :=
  (elemT E.P t).bind fun e => (szOf E.P e).bind fun s => (bytesOfT E.P e).bind fun by_ => (zeroCells E.P e).bind fun z => if z.length = s ∧ 0 < s ∧ 0 < by_ then
  (cellsOf H s y).bind fun new => (match x with
  | .p (.v (.slice none 0 0)) => cond (decide (new.1 * by_ ≤ 140737488355328) && decide (0 < new.1)) (K ⟨.s (.one (.own nb 0 new.1)), [.obj nb (.box s new.2.1)], new.2.2, nb + 1⟩) none
  | .own slot off len => (match H[slot]? with
    | some (.box s' cs) => if s = s' ∧ (off + len) * s ≤ cs.length then
        cond (decide ((len + new.1) * by_ ≤ 140737488355328))
          (K ⟨.s (.one (.own nb 0 (len + new.1))), [.obj slot .dead, .obj nb (.box s ((cs.drop (off * s)).take (len * s) ++ new.2.1))], .obj slot :: new.2.2, nb + 1⟩) none else none
    | _ => none)
  | _ => none) else none

def intsOf (k : IntKind) : List AV → Option (List Int)
  | [] => some []
  | .s (.one (.p (.v (.int k' a)))) :: r => if k = k' then (intsOf k r).map (a :: ·) else none
  | _ => none

/-- The built-in functions that need no memory beside what is named. -/
def builtinV {ρ : Type} (E : Env) (H : List Ob) (nb : Nat) (b : Builtin) (ts : List TypeId) (args : List AV) (K : Out → Option ρ) : Option ρ :=
  match b, ts, args with
  | .len, [t], [.s (.one (.p (.v (.string s))))] => (match E.P.underlying t with | some .string => K ⟨ints .i64 s.size, [], [], nb⟩ | _ => none)
  | .len, [t], [x] => (match E.P.underlying t, x with
    | some (.slice _), .s (.one c) => (lenOf H c).bind fun ln => K ⟨ints .i64 ln.1, [], ln.2, nb⟩
    | some (.array n _), _ => K ⟨ints .i64 n, [], [], nb⟩
    | _, _ => none)
  | .append, t :: t' :: _, [.s (.one x), .s (.one y)] =>
    (match E.P.underlying t' with
    | some (.slice _) => (elemT E.P t).bind fun e => if E.mix e then appendBox E H nb t x y K else (szOf E.P e).bind fun s => (elemsOf H s y).bind fun er => appendTo E H nb t x er.1 er.2 K
    | some .string => (elemT E.P t).bind fun e => (szOf E.P e).bind fun s => if s = 1 then (match y with | .p (.v (.string b)) => appendTo E H nb t x (bytesPC b.data.toList) [] K | _ => none) else none
    | _ => none)
  | .copy, [t, _], [.s (.one (.own slot off len)), .s (.one y)] => (elemT E.P t).bind fun e => (szOf E.P e).bind fun s => (elemsOf H s y).bind fun er => (match H[slot]? with
    | some (.arr s' false es) => if s = s' ∧ off + len ≤ es.length ∧ 0 < s then
        K ⟨ints .i64 (min er.1.length len : Nat), [.obj slot (.arr s' false (splice es off (er.1.take (min er.1.length len))))], .obj slot :: er.2, nb⟩ else none
    | _ => none)
  | .clear, [t], [.s (.one (.own slot off len))] => (elemT E.P t).bind fun e => (szOf E.P e).bind fun s => (zeroCells E.P e).bind fun z => (match H[slot]? with
    | some (.arr s' false es) => if s = s' ∧ z.length = s ∧ off + len ≤ es.length ∧ 0 < len ∧ 0 < s then
        K ⟨.tup [], [.obj slot (.arr s' false (splice es off (List.replicate len (z.map .v))))], [.obj slot], nb⟩ else none
    | _ => none)
  | .min, _, .s (.one (.p (.v (.int k a)))) :: rest => (intsOf k rest).bind fun l => K ⟨ints k (l.foldl (fun x y => if y < x then y else x) a), [], [], nb⟩
  | .max, _, .s (.one (.p (.v (.int k a)))) :: rest => (intsOf k rest).bind fun l => K ⟨ints k (l.foldl (fun x y => if y > x then y else x) a), [], [], nb⟩
  | _, _, _ => none

def convV {ρ : Type} (E : Env) (nb : Nat) (src dst : TypeId) (x : AV) (K : Out → Option ρ) : Option ρ :=
  match E.P.underlying src, E.P.underlying dst, x with
  | some _, some (.int k), .s (.one (.p (.v (.int _ n)))) => K ⟨ints k (k.wrap n), [], [], nb⟩
  | some _, some .string, .s (.one (.p (.v (.string b)))) => K ⟨.s (.one (.p (.v (.string b)))), [], [], nb⟩
  | some _, some (.slice e), .s (.one (.p (.v (.string s)))) =>
    (match E.P.underlying e with
    | some (.int .u8) => K ⟨.s (.one (.own nb 0 s.size)), [.obj nb (.arr 1 false (bytesPC s.data.toList))], [], nb + 1⟩
    | _ => none)
  | _, _, _ => none

def flatZero (z : List Value) : Nat → List C
  | 0 => []
  | n + 1 => z.map (fun v => .p (.v v)) ++ flatZero z n

/-- make([]T, len, cap). -/
def makeSl {ρ : Type} (E : Env) (nb : Nat) (t : TypeId) (len cap : AV) (K : Out → Option ρ) : Option ρ :=
  (elemT E.P t).bind fun e => (szOf E.P e).bind fun s => (bytesOfT E.P e).bind fun by_ => (zeroCells E.P e).bind fun z => if z.length = s ∧ 0 < s ∧ 0 < by_ then
  (match len, cap with
  | .s (.one (.p (.v (.int .i64 l)))), .s (.one (.p (.v (.int .i64 c)))) =>
    cond (decide (0 ≤ l) && decide (l ≤ c) && decide (c * by_ ≤ 140737488355328))
      (if E.mix e then K ⟨.s (.one (.own nb 0 l.toNat)), [.obj nb (.box s (flatZero z l.toNat))], [], nb + 1⟩
       else K ⟨.s (.one (.own nb 0 l.toNat)), [.obj nb (.arr s false (List.replicate l.toNat (z.map .v)))], [], nb + 1⟩) none
  | _, _ => none) else none

/-- Functions without a body. -/
def externV (name : String) (args : List AV) : Option AV :=
  if name = "internal/bytealg.IndexByteString" then (match args with
    | [.s (.one (.p (.v (.string s)))), .s (.one (.p (.v (.int .u8 c))))] => some (ints .i64 (match (List.range s.size).find? fun i => s[i]! == c.toNat.toUInt8 with | some i => (i : Int) | none => -1))
    | _ => none)
  else if name = "internal/bytealg.CountString" then (match args with
    | [.s (.one (.p (.v (.string s)))), .s (.one (.p (.v (.int .u8 c))))] => some (ints .i64 (s.foldl (fun (n : Int) x => if x == c.toNat.toUInt8 then n + 1 else n) ((0 : Nat) : Int)))
    | _ => none)
  else none

/-- One operation that calls nothing. -/
def aop {ρ : Type} (E : Env) (tm : List AV) (H : List Ob) (nb : Nat) (o : Oper) (K : Out → Option ρ) : Option ρ :=
  match o.op with
  | .move x | .assign x => (operand tm x).bind fun v => K ⟨v, [], [], nb⟩
  | .pick c a b => (operand tm c).bind fun cv => (operand tm a).bind fun av => (operand tm b).bind fun bv => cv.val.bind fun u => match u with
    | .bool x => pickV x av bv fun v => K ⟨v, [], [], nb⟩
    | _ => none
  | .alloc t => (szOf E.P t).bind fun s => (zeroCells E.P t).bind fun z => K ⟨.s (.one (.bp nb 0)), [.obj nb (.box s (z.map fun v => .p (.v v)))], [], nb + 1⟩
  | .box _ x => (operand tm x).bind fun v => v.sv.bind fun u => u.cells.bind fun cs => K ⟨.s (.one (.bp nb 0)), [.obj nb (.box cs.length cs)], [], nb + 1⟩
  | .build t ps => (zeroCells E.P t).bind fun z => (parts tm ps.toList).bind fun vs => (match E.P.underlying t with
    | some (.struct fs) => (fs.toList.mapM fun (f : Field) => (szOf E.P f.type).map fun s => (f.offset, s)).bind fun pl => (fillC (fun i => pl[i]?) (z.map fun v => .p (.v v)) vs)
    | some (.array _ e) => (szOf E.P e).bind fun s => fillC (fun i => some (i * s, s)) (z.map fun v => .p (.v v)) vs
    | _ => none).bind fun cs => (mkC true cs).bind fun v => K ⟨.s v, [], [], nb⟩
  | .buildSlice t len ps => (elemT E.P t).bind fun e => (szOf E.P e).bind fun s => (zeroCells E.P e).bind fun z => (parts tm ps.toList).bind fun vs =>
    if z.length = s ∧ 0 < s ∧ len * s ≤ 16777216 then (fillC (fun i => some (i * s, s)) (flatZero z len) vs).bind fun cs =>
      if E.mix e then K ⟨.s (.one (.own nb 0 len)), [.obj nb (.box s cs)], [], nb + 1⟩
      else (toPs H cs).bind fun l => K ⟨.s (.one (.own nb 0 len)), l.2.1 ++ [.obj nb (.arr s false (chunk s len l.1))], l.2.2, nb + 1⟩ else none
  | .load t a => (operand tm a).bind fun v => (match v with | .s (.one c) => loadAt E H t c fun x rd => K ⟨.s x, [], rd, nb⟩ | _ => none)
  | .store t a x => (operand tm a).bind fun v => (operand tm x).bind fun u => u.sv.bind fun y => (match v with | .s (.one c) => storeAt E H t c y fun wr rd => K ⟨.tup [], wr, rd, nb⟩ | _ => none)
  | .nilCheck x => (operand tm x).bind fun v => (match v with | .s (.one c) => if notNil c then K ⟨v, [], [], nb⟩ else none | _ => none)
  | .binOp op t x y _ => (operand tm x).bind fun v => (operand tm y).bind fun u => binAny E.P op t v u fun r => K ⟨r, [], [], nb⟩
  | .unOp op _ x => (operand tm x).bind fun v => unAny op v fun r => K ⟨r, [], [], nb⟩
  | .convert src dst x => (operand tm x).bind fun v => convV E nb src dst v K
  | .makeFunc (.func f) first captured => if first.size = 0 then (captured.toList.mapM fun x => (operand tm x).bind fun v => match v with | .s (.one c) => some c | _ => none).bind fun cs => K ⟨.s (.one (.clo f cs)), [], [], nb⟩ else none
  | .makeSlice t l c => (operand tm l).bind fun v => (operand tm c).bind fun u => makeSl E nb t v u K
  | .slice t x lo hi mx => (operand tm x).bind fun v => (optI tm lo).bind fun l => (optI tm hi).bind fun h => (optI tm mx).bind fun m => sliceV E H t v l h m fun r rd => K ⟨r, [], rd, nb⟩
  | .fieldAddr t x f => (operand tm x).bind fun v => (match v with | .s (.one c) => fieldAt E t c f fun r => K ⟨.s (.one r), [], [], nb⟩ | _ => none)
  | .field t x f => (operand tm x).bind fun v => (match E.P.underlying t with
    | some (.struct fs) => fs[f]?.bind fun fd => (partOf E fd.type v fd.offset).bind fun r => K ⟨.s r, [], [], nb⟩
    | _ => none)
  | .indexAddr t x i => (operand tm x).bind fun v => (operand tm i).bind fun u => u.val.bind fun iv => (match v, iv with
    | .s (.one c), .int _ n => indexAt E H t c n fun r rd => K ⟨.s (.one r), [], rd, nb⟩
    | _, _ => none)
  | .index t x i => (operand tm x).bind fun v => (operand tm i).bind fun u => u.val.bind fun iv => (match v, iv, E.P.underlying t with
    | .s (.one (.p (.v (.string s)))), .int _ n, some .string => cond (decide (0 ≤ n)) (s.data.toList[n.toNat]?.bind fun b => K ⟨ints .u8 b.toNat, [], [], nb⟩) none
    | v, .int _ n, some (.array len e) => (szOf E.P e).bind fun s => cond (decide (0 ≤ n) && decide (n < len)) ((partOf E e v (n.toNat * s)).bind fun r => K ⟨.s r, [], [], nb⟩) none
    | _, _, _ => none)
  | .extract t i => (operand tm t).bind fun v => (match v with | .tup l => l[i]?.bind fun x => K ⟨.s x, [], [], nb⟩ | _ => none)
  | .call { callee := .builtin b, args, argTypes } => (args.toList.mapM (operand tm)).bind fun vs => builtinV E H nb b argTypes.toList vs K
  | _ => none

end Go.Ev

namespace Go.Ev
open Go

section
variable {ρ : Type} (E : Env) (tm : List AV) (H : List Ob) (nb : Nat) (K : Out → Option ρ)
def fMove (x : Operand) : Option ρ := (operand tm x).bind fun v => K ⟨v, [], [], nb⟩
def fPick (c a b : Operand) : Option ρ := (operand tm c).bind fun cv => (operand tm a).bind fun av => (operand tm b).bind fun bv => cv.val.bind fun u => match u with
    | .bool x => pickV x av bv fun v => K ⟨v, [], [], nb⟩
    | _ => none
def fAlloc (t : TypeId) : Option ρ := (szOf E.P t).bind fun s => (zeroCells E.P t).bind fun z => K ⟨.s (.one (.bp nb 0)), [.obj nb (.box s (z.map fun v => .p (.v v)))], [], nb + 1⟩
def fBox (x : Operand) : Option ρ := (operand tm x).bind fun v => v.sv.bind fun u => u.cells.bind fun cs => K ⟨.s (.one (.bp nb 0)), [.obj nb (.box cs.length cs)], [], nb + 1⟩
def fBuild (t : TypeId) (ps : Array (Nat × Operand)) : Option ρ := (zeroCells E.P t).bind fun z => (parts tm ps.toList).bind fun vs => (match E.P.underlying t with
    | some (.struct fs) => (fs.toList.mapM fun (f : Field) => (szOf E.P f.type).map fun s => (f.offset, s)).bind fun pl => (fillC (fun i => pl[i]?) (z.map fun v => .p (.v v)) vs)
    | some (.array _ e) => (szOf E.P e).bind fun s => fillC (fun i => some (i * s, s)) (z.map fun v => .p (.v v)) vs
    | _ => none).bind fun cs => (mkC true cs).bind fun v => K ⟨.s v, [], [], nb⟩
def fBuildSlice (t : TypeId) (len : Nat) (ps : Array (Nat × Operand)) : Option ρ := (elemT E.P t).bind fun e => (szOf E.P e).bind fun s => (zeroCells E.P e).bind fun z => (parts tm ps.toList).bind fun vs =>
    if z.length = s ∧ 0 < s ∧ len * s ≤ 16777216 then (fillC (fun i => some (i * s, s)) (flatZero z len) vs).bind fun cs =>
      if E.mix e then K ⟨.s (.one (.own nb 0 len)), [.obj nb (.box s cs)], [], nb + 1⟩
      else (toPs H cs).bind fun l => K ⟨.s (.one (.own nb 0 len)), l.2.1 ++ [.obj nb (.arr s false (chunk s len l.1))], l.2.2, nb + 1⟩ else none
def fLoad (t : TypeId) (a : Operand) : Option ρ := (operand tm a).bind fun v => (match v with | .s (.one c) => loadAt E H t c fun x rd => K ⟨.s x, [], rd, nb⟩ | _ => none)
def fStore (t : TypeId) (a x : Operand) : Option ρ := (operand tm a).bind fun v => (operand tm x).bind fun u => u.sv.bind fun y => (match v with | .s (.one c) => storeAt E H t c y fun wr rd => K ⟨.tup [], wr, rd, nb⟩ | _ => none)
def fNilCheck (x : Operand) : Option ρ := (operand tm x).bind fun v => (match v with | .s (.one c) => if notNil c then K ⟨v, [], [], nb⟩ else none | _ => none)
def fBinOp (op : BinOp) (t : TypeId) (x y : Operand) : Option ρ := (operand tm x).bind fun v => (operand tm y).bind fun u => binAny E.P op t v u fun r => K ⟨r, [], [], nb⟩
def fUnOp (op : UnOp) (x : Operand) : Option ρ := (operand tm x).bind fun v => unAny op v fun r => K ⟨r, [], [], nb⟩
def fConvert (src dst : TypeId) (x : Operand) : Option ρ := (operand tm x).bind fun v => convV E nb src dst v K
def fMakeFunc (f : FuncId) (first captured : Array Operand) : Option ρ := if first.size = 0 then (captured.toList.mapM fun x => (operand tm x).bind fun v => match v with | .s (.one c) => some c | _ => none).bind fun cs => K ⟨.s (.one (.clo f cs)), [], [], nb⟩ else none
def fMakeSlice (t : TypeId) (l c : Operand) : Option ρ := (operand tm l).bind fun v => (operand tm c).bind fun u => makeSl E nb t v u K
def fSlice (t : TypeId) (x : Operand) (lo hi mx : Option Operand) : Option ρ := (operand tm x).bind fun v => (optI tm lo).bind fun l => (optI tm hi).bind fun h => (optI tm mx).bind fun m => sliceV E H t v l h m fun r rd => K ⟨r, [], rd, nb⟩
def fFieldAddr (t : TypeId) (x : Operand) (f : Nat) : Option ρ := (operand tm x).bind fun v => (match v with | .s (.one c) => fieldAt E t c f fun r => K ⟨.s (.one r), [], [], nb⟩ | _ => none)
def fField (t : TypeId) (x : Operand) (f : Nat) : Option ρ := (operand tm x).bind fun v => (match E.P.underlying t with
    | some (.struct fs) => fs[f]?.bind fun fd => (partOf E fd.type v fd.offset).bind fun r => K ⟨.s r, [], [], nb⟩
    | _ => none)
def fIndexAddr (t : TypeId) (x i : Operand) : Option ρ := (operand tm x).bind fun v => (operand tm i).bind fun u => u.val.bind fun iv => (match v, iv with
    | .s (.one c), .int _ n => indexAt E H t c n fun r rd => K ⟨.s (.one r), [], rd, nb⟩
    | _, _ => none)
def fIndex (t : TypeId) (x i : Operand) : Option ρ := (operand tm x).bind fun v => (operand tm i).bind fun u => u.val.bind fun iv => (match v, iv, E.P.underlying t with
    | .s (.one (.p (.v (.string s)))), .int _ n, some .string => cond (decide (0 ≤ n)) (s.data.toList[n.toNat]?.bind fun b => K ⟨ints .u8 b.toNat, [], [], nb⟩) none
    | v, .int _ n, some (.array len e) => (szOf E.P e).bind fun s => cond (decide (0 ≤ n) && decide (n < len)) ((partOf E e v (n.toNat * s)).bind fun r => K ⟨.s r, [], [], nb⟩) none
    | _, _, _ => none)
def fExtract (t : Operand) (i : Nat) : Option ρ := (operand tm t).bind fun v => (match v with | .tup l => l[i]?.bind fun x => K ⟨.s x, [], [], nb⟩ | _ => none)
def fCall (b : Builtin) (args : Array Operand) (argTypes : Array TypeId) : Option ρ := (args.toList.mapM (operand tm)).bind fun vs => builtinV E H nb b argTypes.toList vs K
end

def aopF {ρ : Type} (E : Env) (tm : List AV) (H : List Ob) (nb : Nat) (o : Oper) (K : Out → Option ρ) : Option ρ :=
  match o.op with
  | .move x | .assign x => fMove tm nb K x
  | .pick c a b => fPick tm nb K c a b
  | .alloc t => fAlloc E nb K t
  | .box _ x => fBox tm nb K x
  | .build t ps => fBuild E tm nb K t ps
  | .buildSlice t len ps => fBuildSlice E tm H nb K t len ps
  | .load t a => fLoad E tm H nb K t a
  | .store t a x => fStore E tm H nb K t a x
  | .nilCheck x => fNilCheck tm nb K x
  | .binOp op t x y _ => fBinOp E tm nb K op t x y
  | .unOp op _ x => fUnOp tm nb K op x
  | .convert src dst x => fConvert E tm nb K src dst x
  | .makeFunc (.func f) first captured => fMakeFunc tm nb K f first captured
  | .makeSlice t l c => fMakeSlice E tm nb K t l c
  | .slice t x lo hi mx => fSlice E tm H nb K t x lo hi mx
  | .fieldAddr t x f => fFieldAddr E tm nb K t x f
  | .field t x f => fField E tm nb K t x f
  | .indexAddr t x i => fIndexAddr E tm H nb K t x i
  | .index t x i => fIndex E tm nb K t x i
  | .extract t i => fExtract tm nb K t i
  | .call { callee := .builtin b, args, argTypes } => fCall E tm H nb K b args argTypes
  | _ => none

theorem aopF_eq {ρ : Type} (E : Env) (tm : List AV) (H : List Ob) (nb : Nat) (o : Oper) (K : Out → Option ρ) : aopF E tm H nb o K = aop E tm H nb o K := by
  obtain ⟨dst, op, ty, pos, after, guard⟩ := o
  cases op with
  | call c => obtain ⟨callee, args, ts⟩ := c; cases callee <;> rfl
  | makeFunc fn _ _ => cases fn <;> rfl
  | _ => rfl

end Go.Ev

namespace Go.Ev
open Go

/-- How a piece of code is left. -/
inductive X where
  | normal
  | exit (id : Nat)
  | ret
  deriving Inhabited

def RK.T : RK → Type
  | .rd q => q.T
  | .fr _ => List (List PC)

def RTup : List RK → Type
  | [] => Unit
  | k :: ks => k.T × RTup ks

def Kind.rk : Kind → RK
  | .list s => .fr s
  | q => .rd q

def resKinds (E : Env) (f : FuncId) : Option (List (List RK)) :=
  (E.P.funcs[f]?).bind fun fn => fn.resultTypes.toList.mapM fun t => (kinds E.P 8 t).map fun ks => ks.map Kind.rk

def rks (E : Env) (f : FuncId) : List RK := match E.rk f with | some l => l | none => ((resKinds E f).getD []).flatten

/-- A cell handed out of a frame; 'used': the objects that have been handed out. -/
def outC (H : List Ob) (used : List Nat) : (k : RK) → C → Option (k.T × List Nat)
  | .rd q, .p x => (q.dec x).map fun t => (t, used)
  | .fr s, .own slot off len => (match H[slot]? with
    | some (.arr s' false es) => if s = s' ∧ off + len ≤ es.length ∧ !used.contains slot then some ((es.drop off).take len, slot :: used) else none
    | _ => none)
  | .fr _, .p (.v (.slice none 0 0)) => some ([], used)
  | .rd (.list s), .own slot off len => (match H[slot]? with
    | some (.arr s' _ es) => if s = s' ∧ off + len ≤ es.length ∧ !used.contains slot then some ((es.drop off).take len, slot :: used) else none
    | _ => none)
  | _, _ => none

def outCs (H : List Ob) (used : List Nat) : (ks : List RK) → List C → Option (RTup ks)
  | [], [] => some ()
  | k :: ks, c :: cs => (outC H used k c).bind fun x => (outCs H x.2 ks cs).bind fun t => some (x.1, t)
  | _, _ => none

/-- A value is of a type's form. -/
def SV.fits (P : Program) (t : TypeId) (x : SV) : Bool :=
  match szOf P t, aggT P t, x with
  | some n, some true, .agg cs => cs.length == n
  | some n, some true, .pagg cs => cs.length == n
  | some n, some false, .one _ => n == 1
  | _, _, _ => false

/-- The results. -/
def resVals {ρ : Type} (E : Env) (st : St) : List ResultVar → List TypeId → (List SV → Option ρ) → Option ρ
  | [], [], K => K []
  | .tmp t :: rest, ty :: tys, K => (st.tmps[t]?).bind fun v => v.sv.bind fun x => if x.fits E.P ty then resVals E st rest tys fun r => K (x :: r) else none
  | .cell a t :: rest, ty :: tys, K => (st.tmps[a]?).bind fun v => (match v with
    | .s (.one c) => loadAt E st.heap t c fun x _ => if x.fits E.P ty then resVals E st rest tys fun r => K (x :: r) else none
    | _ => none)
  | _, _, _ => none

/-- The cells of values. -/
def cellsAll (xs : List SV) : Option (List C) := (xs.mapM SV.cells).map List.flatten

/-- The results are taken into the caller's frame: values, new objects. -/
def inC (nb : Nat) : (k : RK) → k.T → C × List Wr × Nat
  | .rd q, x => (.p (q.enc x), [], nb)
  | .fr s, es => (.own nb 0 es.length, [.obj nb (.arr s false es)], nb + 1)

def inCs (nb : Nat) : (ks : List RK) → RTup ks → List C × List Wr × Nat
  | [], _ => ([], [], nb)
  | k :: ks, t => ((inC nb k t.1).1 :: (inCs (inC nb k t.1).2.2 ks t.2).1, (inC nb k t.1).2.1 ++ (inCs (inC nb k t.1).2.2 ks t.2).2.1, (inCs (inC nb k t.1).2.2 ks t.2).2.2)

/-- The values of the results, out of their cells. -/
def groupC (P : Program) : List TypeId → List C → Option (List SV)
  | [], [] => some []
  | t :: ts, cs => (szOf P t).bind fun n => (aggT P t).bind fun agg => if n ≤ cs.length then (mkC agg (cs.take n)).bind fun v => (groupC P ts (cs.drop n)).bind fun r => some (v :: r) else none
  | _, _ => none

/-- Results by their cells. -/
def RK.dec : (k : RK) → PC → Option k.T
  | .rd q, c => q.dec c
  | .fr s, .sl s' _ es => if s = s' then some es else none
  | _, _ => none
def decR : (ks : List RK) → List PC → Option (RTup ks)
  | [], [] => some ()
  | k :: ks, c :: cs => (k.dec c).bind fun x => (decR ks cs).bind fun t => some (x, t)
  | _, _ => none

def resVal : List SV → AV
  | [x] => .s x
  | l => .tup l

/-- An argument that is handed over to be read: what is read of the heap. -/
def expC : Nat → List Ob → C → Option (PC × List Reg)
  | _, _, .p x => some (x, [])
  | 0, _, _ => none
  | n + 1, H, .own slot off len => (match H[slot]? with
    | some (.arr s _ es) => if off + len ≤ es.length then some (.sl s false ((es.drop off).take len), [.obj slot]) else none
    | some (.box s cs) => if (off + len) * s ≤ cs.length then (((cs.drop (off * s)).take (len * s)).mapM (expC n H)).bind fun l => some (.sl s false (chunk s len (l.map (·.1))), .obj slot :: (l.map (·.2)).flatten) else none
    | _ => none)
  | _, _, _ => none

def expCs (H : List Ob) : List C → Option (List PC × List Reg)
  | [] => some ([], [])
  | c :: cs => (expC 3 H c).bind fun x => (expCs H cs).bind fun r => some (x.1 :: r.1, x.2 ++ r.2)

def expSV (peek : Bool) (H : List Ob) : SV → Option (SV × List Reg)
  | .dead => none
  | .one (.bp slot off) => if peek then (match H[slot]? with
    | some (.box _ cs) => (pcs cs).bind fun l => some (.one (.rp l off), [.obj slot])
    | _ => none) else none
  | .one (.clo f cs) => if cs.isEmpty then some (.one (.clo f []), []) else none
  | .one c => (expC 3 H c).bind fun x => some (.one (.p x.1), x.2)
  | .pagg l => some (.pagg l, [])
  | .agg cs => (expCs H cs).bind fun x => some (.pagg x.1, x.2)

def expSVs (peek : Bool) (H : List Ob) : List SV → Option (List SV × List Reg)
  | [] => some ([], [])
  | x :: xs => (expSV peek H x).bind fun y => (expSVs peek H xs).bind fun r => some (y.1 :: r.1, y.2 ++ r.2)

/-- A result of which nothing leads into what was there. -/
def RK.flat : (k : RK) → k.T → Bool
  | .rd (.list _), _ => false
  | .rd .any, x => (match (x : PC) with | .v _ => true | _ => false)
  | .rd _, _ => true
  | .fr _, es => (es : List (List PC)).all fun e => e.all fun c => match c with | .v _ => true | _ => false
def flatR : (ks : List RK) → RTup ks → Bool
  | [], _ => true
  | k :: ks, t => k.flat t.1 && flatR ks t.2

def initSt (fn : Func) (args : List SV) (H : List Ob) : St :=
  { tmps := args.map .s ++ List.replicate (fn.ntmps - args.length) (.s .dead), heap := H }

structure Log where
  dst : Option Tmp
  rd : List Reg
  wr : List Wr
  deriving Inhabited

section
variable {ρ : Type} (E : Env)
/- 'call': a function on values; 'body': a body over this heap; both with less fuel -/
variable (call : (f : FuncId) → List SV → Option (RTup (rks E f))) (body : Code → St → (X → St → Option ρ) → Option ρ)

/-- What a known law asks. -/
def natPre (f : FuncId) (as : List SV) : Bool := match E.nat f as with | some (some c, _) => c | _ => true

/-- A call of function f. -/
def callV (H : List Ob) (nb : Nat) (f : FuncId) (args : List SV) (K : Out → Option ρ) : Option ρ :=
  match (if E.inl f then none else expSVs (E.peek f) H args) with
  | some (as, rd) => (call f as).bind fun r => cond (natPre E f as) (cond (rd.isEmpty || flatR _ r) (((E.P.funcs[f]?).bind fun fn => groupC E.P fn.resultTypes.toList (inCs nb (rks E f) r).1).bind fun vs => K ⟨resVal vs, (inCs nb (rks E f) r).2.1, rd, (inCs nb (rks E f) r).2.2⟩) none) none
  | none => (E.P.funcs[f]?).bind fun fn => fn.body.bind fun c => body c (initSt fn args H) fun e st => match e with
    | .exit _ => none
    | _ => resVals E st fn.results.toList fn.resultTypes.toList fun vs => K ⟨resVal vs, [.heap st.heap], [.all], st.heap.length⟩

/-- One operation. -/
def opV (tm : List AV) (H : List Ob) (nb : Nat) (o : Oper) (K : Out → Option ρ) : Option ρ :=
  match o.op with
  | .call { callee := .value x, args, .. } => (operand tm x).bind fun fv => (args.toList.mapM fun y => (operand tm y).bind AV.sv).bind fun as => (match fv with
    | .s (.one (.clo f caps)) => (E.P.funcs[f]?).bind fun fn => if fn.name == "runtime.NumGoroutine" then none else (match fn.body with
      | some _ => callV E call body H nb f (as ++ caps.map .one) K
      | none => if caps.isEmpty && fn.origin == "" then (externV fn.name (as.map .s)).bind fun v => K ⟨v, [], [], nb⟩ else none)
    | _ => none)
  | _ => aopF E tm H nb o K

def guardTmp (ops : Array Oper) (o : Oper) : Option (Tmp × Bool) :=
  match o.guard with
  | none => none
  | some (j, want) => ((ops[j]?).bind (·.dst)).map fun t => (t, want)

def putT (tm : List AV) (dst : Option Tmp) (v : AV) : List AV := match dst with | some d => tm.set d v | none => tm

/-- The operations of a region, in the order of the text. -/
def opsV (ops : Array Oper) : List Oper → List AV → List Ob → List Log → (List AV → List Ob → List Log → Option ρ) → Option ρ
  | [], tm, H, lg, K => K tm H lg
  | o :: rest, tm, H, lg, K =>
    let run (tm : List AV) : Option ρ := opV E call body tm H H.length o fun out => opsV ops rest (putT tm o.dst out.v) (puts H out.wr) (lg ++ [⟨o.dst, out.rd ++ (List.range' H.length (out.nb - H.length)).map .obj, out.wr⟩]) K
    let pass (tm : List AV) : Option ρ := opsV ops rest (putT tm o.dst (.tup [])) H (lg ++ [⟨o.dst, [], []⟩]) K
    match o.guard with
    | none => run tm
    | some _ => (guardTmp ops o).bind fun g => (tm[g.1]?).bind fun v => match v with
      | .tup _ => pass tm
      | .s (.one (.p (.v (.bool b)))) => cond b (if g.2 then run (tm.set g.1 (boolV true)) else pass (tm.set g.1 (boolV true))) (if g.2 then pass (tm.set g.1 (boolV false)) else run (tm.set g.1 (boolV false)))
      | _ => none

/-- What holds where a guard does: the guards that it leans on. -/
def chainOf (tm : List AV) : Nat → Tmp → Bool → List (Tmp × Bool)
  | 0, _, _ => []
  | n + 1, g, w => (g, w) :: (match tm[g]? with | some (.g g1 w1 _) => chainOf tm n g1 w1 | _ => [])
def effOf (tm : List AV) (g : Tmp) (w : Bool) : List AV :=
  let ch := chainOf tm 4 g w
  tm.map fun v => match v with | .g g1 w1 x => if ch.contains (g1, w1) then .s x else v | v => v
def rootOf (tm : List AV) : Nat → Tmp → Tmp
  | 0, g => g
  | n + 1, g => match tm[g]? with | some (.g g1 _ _) => rootOf tm n g1 | _ => g
def settle (tm : List AV) (g : Tmp) (b : Bool) : List AV :=
  (tm.set g (boolV b)).map fun v => match v with | .g g1 w x => if g1 = g then (if w = b then .s x else .tup []) else v | v => v
def tidy (tm : List AV) : List AV := tm.map fun v => match v with | .g _ _ _ => .s .dead | v => v
def noG : AV → AV | .g _ _ _ => .s .dead | v => v
def putOK (tm : List AV) (dst : Option Tmp) : Bool := match dst with
  | none => true
  | some d => tm.all fun v => match v with | .g g _ _ => g != d | _ => true

/-- Operations that may be carried out ahead of their guard. -/
def tame : Op → Bool
  | .move _ | .assign _ | .fieldAddr .. | .field .. | .load .. | .extract .. | .nilCheck _ | .unOp .. | .build .. => true
  | .binOp op _ _ _ _ => (match op with | .quo | .rem | .shl | .shr => false | _ => true)
  | .call { callee := .builtin .len, .. } => true
  | .call { callee := .value (.func _), .. } => true
  | _ => false

/-- Loads whose value is at hand. -/
def near (tm : List AV) : Op → Bool
  | .load _ a => (match operand tm a with | some (.s (.one (.bp _ _))) => true | _ => false)
  | _ => true

def natCall (f : FuncId) (as : List SV) : Option (RTup (rks E f)) := match E.nat f as with | some (none, cs) => decR (rks E f) cs | _ => none

def ahead (tm : List AV) (H : List Ob) (o : Oper) : Option SV :=
  if tame o.op && near tm o.op then (opV (ρ := Out) E (natCall E) (fun _ _ _ => none) tm H H.length o some).bind fun out => if out.wr.isEmpty then out.v.sv else none else none

def sideOf (tm : List AV) (c : Operand) (b : Bool) : List AV := match c with | .tmp t => effOf tm t b | _ => tm

/-- The choice between two operands, each where the choice is made. -/
def pickM {α : Type} (tm : List AV) (c x y : Operand) (K : AV → Option α) : Option α :=
  (operand tm c).bind fun cv => cv.val.bind fun u => match u with
    | .bool b => (operand (sideOf tm c true) x).bind fun xv => (operand (sideOf tm c false) y).bind fun yv => pickV b xv yv K
    | _ => none

/-- A guarded operation's value. -/
def aheadM (tm : List AV) (H : List Ob) (o : Oper) : Option SV :=
  match o.op with
  | .pick c x y => pickM tm c x y AV.sv
  | _ => ahead E tm H o

/-- One operation of a region, the guarded ones ahead of their guards where that may be. -/
def stepM (ops : Array Oper) (o : Oper) (H : List Ob) (cont : List AV → List Ob → Option ρ) : Nat → List AV → Option ρ
  | 0, _ => none
  | k + 1, tm =>
    let put (tm : List AV) (v : AV) (H : List Ob) : Option ρ := if putOK tm o.dst then cont (putT tm o.dst v) H else none
    let run (tm : List AV) : Option ρ := match o.op with
      | .pick c x y => pickM tm c x y fun v => put tm (noG v) H
      | _ => opV E call body tm H H.length o fun out => put tm (noG out.v) (puts H out.wr)
    match o.guard with
    | none => run tm
    | some _ => (guardTmp ops o).bind fun g => (tm[g.1]?).bind fun gv => match gv with
      | .tup _ => put tm (.tup []) H
      | gv => (match aheadM E (effOf tm g.1 g.2) H o with
        | some x => if o.dst = some g.1 then none else put tm (.g g.1 g.2 x) H
        | none => (match gv with
          | .s (.one (.p (.v (.bool b)))) => cond b (if g.2 then run (settle tm g.1 true) else put (settle tm g.1 true) (.tup []) H) (if g.2 then put (settle tm g.1 false) (.tup []) H else run (settle tm g.1 false))
          | .g _ _ _ => (match tm[rootOf tm 4 g.1]? with
            | some (.s (.one (.p (.v (.bool b))))) => cond b (stepM ops o H cont k (settle tm (rootOf tm 4 g.1) true)) (stepM ops o H cont k (settle tm (rootOf tm 4 g.1) false))
            | _ => none)
          | _ => none))

def opsM (ops : Array Oper) : List Oper → List AV → List Ob → (List AV → List Ob → Option ρ) → Option ρ
  | [], tm, H, K => K tm H
  | o :: rest, tm, H, K => stepM E call body ops o H (fun tm H => opsM ops rest tm H K) 4 tm

def apart (a b c d : Nat) : Bool := a + b ≤ c || c + d ≤ a

def Reg.off (r : Reg) (w : Wr) : Bool :=
  match r, w with
  | .box s o n, .box s' o' cs => s != s' || apart o n o' cs.length
  | .box s _ _, .obj s' _ => s != s'
  | .obj s, .box s' _ _ => s != s'
  | .obj s, .obj s' _ => s != s'
  | .all, _ => false
  | _, .heap _ => false
def Wr.off (r w : Wr) : Bool :=
  match r, w with
  | .box s o cs, .box s' o' cs' => s != s' || apart o cs.length o' cs'.length
  | .box s _ _, .obj s' _ => s != s'
  | .obj s _, .box s' _ _ => s != s'
  | .obj s _, .obj s' _ => s != s'
  | .heap _, _ => false
  | _, .heap _ => false

def opTmps (ops : Array Oper) (o : Oper) : List Tmp :=
  (o.op.operands.toList.filterMap fun | .tmp t => some t | _ => none) ++ (guardTmp ops o).toList.map (·.1)

/-- Two operations that no edge orders do not meet. -/
def indep (ops : Array Oper) (oi oj : Oper) (li lj : Log) : Bool :=
  (match oi.dst with | some d => !(opTmps ops oj).contains d && !(oj.dst == some d) | none => true) &&
  (match oj.dst with | some d => !(opTmps ops oi).contains d | none => true) &&
  li.wr.all (fun w => lj.rd.all (·.off w) && lj.wr.all (·.off w)) && lj.wr.all (fun w => li.rd.all (·.off w))

def indepAll (ops : Array Oper) (lg : List Log) : Bool :=
  let b := Region.before ops
  ops.toList.zipIdx.all (fun p => p.1.after.toList.all fun e => !Region.binds .any e || decide (e.on < p.2)) && (List.range ops.size).all fun j => (List.range j).all fun i => (b.getD j 0).testBit i || indep ops (ops.getD i default) (ops.getD j default) (lg.getD i default) (lg.getD j default)

/-- Code. 'again': the same with less fuel. -/
def codeV : Code → St → (X → St → Option ρ) → Option ρ
  | .skip, st, K => K .normal st
  | .region id ops draw, st, K => if E.cut id then none else if E.merge && !draw then opsM E call body ops ops.toList (tidy st.tmps) st.heap fun tm H => K .normal ⟨tm, H⟩ else opsV E call body ops ops.toList st.tmps st.heap [] fun tm H lg => if draw then cond (indepAll ops lg) (K .normal ⟨tm, H⟩) none else K .normal ⟨tm, H⟩
  | .seq a b, st, K => codeV a st fun e st' => match e with | .normal => codeV b st' K | e => K e st'
  | .cond c x y, st, K => (operand st.tmps c).bind fun v => v.val.bind fun u => match u with | .bool b => cond b (codeV x st K) (codeV y st K) | _ => none
  | .block id c, st, K => codeV c st fun e st' => match e with | .exit id' => if id' = id then K .normal st' else K (.exit id') st' | e => K e st'
  | .loop c, st, K => codeV c st fun e st' => match e with | .normal => body (.loop c) st' K | e => K e st'
  | .exit id, st, K => K (.exit id) st
  | .ret, st, K => K .ret st
  | _, _, _ => none
end

/-- The evaluator. -/
def ev (E : Env) : Nat → (ρ : Type) → Code → St → (X → St → Option ρ) → Option ρ
  | 0, _, _, _, _ => none
  | n + 1, ρ, c, st, K => codeV E
      (fun f args => match E.nat f args with
        | some (_, cs) => decR (rks E f) cs
        | none => (E.P.funcs[f]?).bind fun fn => fn.body.bind fun c => ev E n (RTup (rks E f)) c (initSt fn args []) fun e st => match e with
          | .exit _ => none
          | _ => resVals E st fn.results.toList fn.resultTypes.toList fun vs => (cellsAll vs).bind fun cs => outCs st.heap [] (rks E f) cs)
      (fun c st K => ev E n ρ c st K) c st K

/-- A function on values. -/
def fnV (E : Env) (n : Nat) (f : FuncId) (args : List SV) : Option (RTup (rks E f)) :=
  (E.P.funcs[f]?).bind fun fn => fn.body.bind fun c => ev E n (RTup (rks E f)) c (initSt fn args []) fun e st => match e with
    | .exit _ => none
    | _ => resVals E st fn.results.toList fn.resultTypes.toList fun vs => (cellsAll vs).bind fun cs => outCs st.heap [] (rks E f) cs

end Go.Ev

namespace Go.Ev
open Go
variable {G : Nat → Option (List PC)}

theorem cell_of_block {w w' : World} {b : Nat} (h : w'.heap[b]? = w.heap[b]?) (o : Nat) : w'.cell? ⟨b, o, none⟩ = w.cell? ⟨b, o, none⟩ := by
  unfold World.cell?
  rw [h]

theorem cell_of_cells {w : World} {b : Nat} {c : Array Value} {t : TypeId} {fr : Nat × Nat} (h : w.heap[b]? = some (.cells c t fr)) (o : Nat) : w.cell? ⟨b, o, none⟩ = c[o]? := by
  unfold World.cell?
  simp [h]

theorem PRep.ext {R R' : Nat → Prop} {w w' : World} (hR : ∀ b, R b → R' b) (hw : ∀ b, R b → w'.heap[b]? = w.heap[b]?) {c : PC} {y : Value} (h : PRep R w c y) : PRep R' w' c y := by
  induction h with
  | v x hx => exact .v x hx
  | sl s nn es A len cap f b o h1 h2 h3 h4 h5 h6 h7 ih =>
    refine .sl s nn es A len cap f b o h1 h2 h3 h4 (fun h => ⟨(h5 h).1, hR _ (h5 h).2⟩) (fun i e he => ⟨(h6 i e he).1, fun j hj => ?_⟩) ih
    have hne : es ≠ [] := by rintro rfl; simp at he
    rw [cell_of_block (hw b (h5 hne).2)]
    exact (h6 i e he).2 j hj

theorem PReps.ext {R R' : Nat → Prop} {w w' : World} (hR : ∀ b, R b → R' b) (hw : ∀ b, R b → w'.heap[b]? = w.heap[b]?) {c : List PC} {y : List Value} (h : PReps R w c y) : PReps R' w' c y :=
  ⟨h.1, fun i a b ha hb => (h.2 i a b ha hb).ext hR hw⟩

section
variable {κ κ' : Kap} {R R' : Nat → Prop} {h h' : Nat → Ob} {w w' : World}

theorem hasCells.ext (e : Ext κ R h w κ' R' h' w') {b n : Nat} (hc : hasCells w b n) : hasCells w' b n := by
  obtain ⟨c, t, fr, hc, hn⟩ := hc
  obtain ⟨c', fr', hc', hs⟩ := e.size b c t fr hc
  exact ⟨c', t, fr', hc', by omega⟩

theorem Ext.stride (e : Ext κ R h w κ' R' h' w') {s n : Nat} (hs : (h s).stride = some n) : h' s = .dead ∨ ((h' s).stride = some n ∧ κ' s = κ s) := by
  rcases e.slot s with h0 | h0 | ⟨h0, h1, h2⟩
  · rw [h0] at hs; cases hs
  · exact .inl h0
  · exact .inr ⟨by rw [h1]; exact hs, h0⟩

theorem Ext.dead (e : Ext κ R h w κ' R' h' w') {s : Nat} (hs : h s = .dead) : h' s = .dead := by
  rcases e.slot s with h0 | h0 | ⟨h0, h1, h2⟩
  · rw [h0] at hs; cases hs
  · exact h0
  · exact absurd hs h2

theorem CRep.ext (e : Ext κ R h w κ' R' h' w') {c : C} {y : Value} (hc : CRep κ R h w c y) : CRep κ' R' h' w' c y := by
  induction hc with
  | p x y hp => exact .p x y (hp.ext e.r e.cells)
  | ownDead slot off len y hd hy => exact .ownDead slot off len y (e.dead hd) hy
  | own slot off len cap A s hs hl hA hcap =>
    rcases e.stride hs with hd | ⟨hs', hk⟩
    · exact .ownDead _ _ _ _ hd rfl
    · refine .own slot off len cap A s hs' hl hA (hcap.imp id ?_)
      rintro ⟨b, o, h1, h2, h3⟩
      exact ⟨b, o, by rw [hk]; exact h1, h2, h3.ext e⟩
  | bpDead slot off a hd => exact .bpDead _ _ _ (e.dead hd)
  | bp slot off b o s hs hk =>
    rcases e.stride hs with hd | ⟨hs', hk'⟩
    · exact .bpDead _ _ _ hd
    · exact .bp slot off b o s hs' (by rw [hk']; exact hk)
  | apDead slot i off a hd => exact .apDead _ _ _ _ (e.dead hd)
  | ap slot i off b o s hs hk =>
    rcases e.stride hs with hd | ⟨hs', hk'⟩
    · exact .apDead _ _ _ _ hd
    · exact .ap slot i off b o s hs' (by rw [hk']; exact hk)
  | rp l off b o f hR hf hp =>
    exact .rp l off b o f (e.r _ hR) (fun j c hj => by rw [cell_of_block (e.cells b hR)]; exact hf j c hj) (fun j c hj => (hp j c hj).ext e.r e.cells)
  | clo f caps vs hl _ ih => exact .clo f caps vs hl ih

theorem CReps.ext (e : Ext κ R h w κ' R' h' w') {c : List C} {y : List Value} (hc : CReps κ R h w c y) : CReps κ' R' h' w' c y :=
  ⟨hc.1, fun i a b ha hb => (hc.2 i a b ha hb).ext e⟩

theorem SRep.ext (e : Ext κ R h w κ' R' h' w') {c : SV} {y : Value} (hc : SRep κ R h w c y) : SRep κ' R' h' w' c y := by
  cases c with
  | dead => trivial
  | one c => exact CRep.ext e hc
  | agg cs => obtain ⟨ys, h1, h2⟩ := hc; exact ⟨ys, h1, h2.ext e⟩
  | pagg cs => obtain ⟨ys, h1, h2⟩ := hc; exact ⟨ys, h1, h2.ext e.r e.cells⟩

theorem VRep.ext (e : Ext κ R h w κ' R' h' w') {c : AV} {y : Value} (hc : VRep κ R h w c y) : VRep κ' R' h' w' c y := by
  cases c with
  | s x => exact SRep.ext e hc
  | tup l => obtain ⟨ys, h1, h2, h3⟩ := hc; exact ⟨ys, h1, h2, fun i x y hx hy => (h3 i x y hx hy).ext e⟩
  | g _ _ _ => trivial

theorem ObRep.ext (e : Ext κ R h w κ' R' h' w') {s : Nat} {ob : Ob} (hc : ObRep κ R h w s ob) (hk : κ' s = κ s)
    (hb : ∀ b o, κ s = some (b, o) → w'.heap[b]? = w.heap[b]?) (hR : ob.live = true → ∀ b o, κ s = some (b, o) → ¬ R' b) : ObRep κ' R' h' w' s ob := by
  cases ob with
  | void => trivial
  | dead => trivial
  | box st cs =>
    obtain ⟨b, o, c, t, fr, h1, h2, h3, h4, h5, h6⟩ := hc
    refine ⟨b, o, c, t, fr, by rw [hk]; exact h1, by rw [hb b o h1]; exact h2, h3, hR rfl b o h1, h5, fun j x hx => ?_⟩
    obtain ⟨y, hy, hr⟩ := h6 j x hx
    exact ⟨y, hy, hr.ext e⟩
  | arr st fz es =>
    rcases hc with ⟨h1, h2⟩ | ⟨b, o, c, t, fr, h1, h2, h3, h4, h5, h6, h7⟩
    · exact .inl ⟨by rw [hk]; exact h1, h2⟩
    · refine .inr ⟨b, o, c, t, fr, by rw [hk]; exact h1, by rw [hb b o h1]; exact h2, h3, fun hz => e.r _ (h4 hz), fun hz => hR (by simp [Ob.live, hz]) b o h1, h6, fun i l hl => ?_⟩
      obtain ⟨ha, hx⟩ := h7 i l hl
      refine ⟨ha, fun j x hj => ?_⟩
      obtain ⟨y, hy, hr⟩ := hx j x hj
      exact ⟨y, hy, hr.ext e.r e.cells⟩

theorem GRep.ext {R R' : Nat → Prop} {w w' : World} (hg : GRep G R w) (hR : ∀ b, R b → R' b) (hw : ∀ b, R b → w'.heap[b]? = w.heap[b]?) : GRep G R' w' := by
  intro g e he
  obtain ⟨h1, h2⟩ := hg g e he
  refine ⟨hR _ h1, fun j c hc => ?_⟩
  obtain ⟨y, hy, hr⟩ := h2 j c hc
  exact ⟨y, by rw [cell_of_block (hw g h1)]; exact hy, hr.ext hR hw⟩

/-- The heap behind a step: slots outside T are as they were. -/
theorem HRep.step (hH : HRep G κ R h w) (e : Ext κ R h w κ' R' h' w') (T : Nat → Prop)
    (same : ∀ s, ¬ T s → h' s = h s ∧ κ' s = κ s ∧ ((h s).stride ≠ none → ∀ b o, κ s = some (b, o) → w'.heap[b]? = w.heap[b]?) ∧ ((h s).live = true → ∀ b o, κ s = some (b, o) → ¬ R' b))
    (obs : ∀ s, T s → ObRep κ' R' h' w' s (h' s))
    (inj : ∀ (i j b o o' : Nat), T i → (h' i).live = true → (h' j).live = true → κ' i = some (b, o) → κ' j = some (b, o') → i = j)
    (old : ∀ b, R' b → b < w'.heap.size) : HRep G κ' R' h' w' := by
  refine ⟨fun s => ?_, fun i j b o o' hi hj hki hkj => ?_, old, hH.glob.ext e.r e.cells⟩
  · by_cases hT : T s
    · exact obs s hT
    · obtain ⟨h1, h2, h3, h4⟩ := same s hT
      rw [h1]
      have hob := hH.obs s
      cases hs : h s with
      | void => trivial
      | dead => trivial
      | box st cs => rw [hs] at hob; exact hob.ext e h2 (h3 (by rw [hs]; simp [Ob.stride])) (by rw [← hs]; exact h4)
      | arr st fz es => rw [hs] at hob; exact hob.ext e h2 (h3 (by rw [hs]; simp [Ob.stride])) (by rw [← hs]; exact h4)
  · by_cases hTi : T i
    · exact inj i j b o o' hTi hi hj hki hkj
    · by_cases hTj : T j
      · exact (inj j i b o' o hTj hj hi hkj hki).symm
      · obtain ⟨h1, h2, _, _⟩ := same i hTi
        obtain ⟨h1', h2', _, _⟩ := same j hTj
        rw [h1] at hi; rw [h1'] at hj; rw [h2] at hki; rw [h2'] at hkj
        exact hH.inj i j b o o' hi hj hki hkj
end

theorem Ext.refl (κ : Kap) (R : Nat → Prop) (h : Nat → Ob) (w : World) : Ext κ R h w κ R h w :=
  ⟨fun _ h => h, fun _ _ => rfl, fun b c t fr hb => ⟨c, fr, hb, rfl⟩, fun s => by by_cases hd : h s = .dead; exact .inr (.inl hd); exact .inr (.inr ⟨rfl, rfl, hd⟩)⟩

theorem Ext.trans {κ κ1 κ2 : Kap} {R R1 R2 : Nat → Prop} {h h1 h2 : Nat → Ob} {w w1 w2 : World} (a : Ext κ R h w κ1 R1 h1 w1) (b : Ext κ1 R1 h1 w1 κ2 R2 h2 w2) : Ext κ R h w κ2 R2 h2 w2 := by
  refine ⟨fun x hx => b.r _ (a.r _ hx), fun x hx => (b.cells x (a.r _ hx)).trans (a.cells x hx), fun x c t fr hx => ?_, fun s => ?_⟩
  · obtain ⟨c1, f1, h1, s1⟩ := a.size x c t fr hx
    obtain ⟨c2, f2, h2, s2⟩ := b.size x c1 t f1 h1
    exact ⟨c2, f2, h2, s2.trans s1⟩
  · rcases a.slot s with h0 | h0 | ⟨h0, h0', h0''⟩
    · exact .inl h0
    · exact .inr (.inl (b.dead h0))
    · rcases b.slot s with k0 | k0 | ⟨k0, k0', k0''⟩
      · cases hs : h s with
        | void => exact .inl rfl
        | dead => exact absurd hs h0''
        | box st cs => rw [hs, k0] at h0'; cases h0'
        | arr st fz es => rw [hs, k0] at h0'; cases h0'
      · exact .inr (.inl k0)
      · exact .inr (.inr ⟨k0.trans h0, k0'.trans h0', h0''⟩)

theorem Fr.refl (κ : Kap) (R : Nat → Prop) (h : Nat → Ob) (w : World) : Fr κ R h w κ R h w :=
  ⟨.refl .., rfl, rfl, rfl, Nat.le_refl _, fun _ _ _ => rfl, fun s _ o hl hk => .inr ⟨s, o, hl, hk⟩, fun _ hb => .inl hb⟩

theorem Fr.trans {κ κ1 κ2 : Kap} {R R1 R2 : Nat → Prop} {h h1 h2 : Nat → Ob} {w w1 w2 : World} (a : Fr κ R h w κ1 R1 h1 w1) (b : Fr κ1 R1 h1 w1 κ2 R2 h2 w2) : Fr κ R h w κ2 R2 h2 w2 := by
  have hnew : ∀ s x o, (h2 s).live = true → κ2 s = some (x, o) → w.heap.size ≤ x ∨ ∃ s' o', (h s').live = true ∧ κ s' = some (x, o') := by
    intro s x o hl hk
    rcases b.new s x o hl hk with hx | ⟨s', o', hl', hk'⟩
    · exact .inl (Nat.le_trans a.grow hx)
    · exact a.new s' x o' hl' hk'
  refine ⟨a.ext.trans b.ext, b.os.trans a.os, b.tape.trans a.tape, b.output.trans a.output, Nat.le_trans a.grow b.grow, fun x hx hn => ?_, hnew, fun x hx => ?_⟩
  · rw [b.keep x (Nat.lt_of_lt_of_le hx a.grow) ?_, a.keep x hx hn]
    intro s o hl hk
    rcases a.new s x o hl hk with h' | ⟨s', o', hl', hk'⟩
    · omega
    · exact hn s' o' hl' hk'
  · rcases b.newR x hx with h' | h' | ⟨s', o', hl', hk'⟩
    · exact a.newR x h'
    · exact .inr (.inl (Nat.le_trans a.grow h'))
    · rcases a.new s' x o' hl' hk' with h'' | h''
      · exact .inr (.inl h'')
      · exact .inr (.inr h'')

end Go.Ev

namespace Go.Ev
open Go
variable {G : Nat → Option (List PC)}

theorem add_none (b o n : Nat) : Addr.add ⟨b, o, none⟩ n = ⟨b, o + n, none⟩ := by
  unfold Addr.add
  split
  · next h => subst h; rfl
  · rfl

/-- Values laid into an array from k on. -/
def setRange (c : Array Value) (k : Nat) : List Value → Array Value
  | [] => c
  | v :: vs => setRange (c.setIfInBounds k v) (k + 1) vs

theorem setRange_size (vs : List Value) : ∀ (c : Array Value) (k : Nat), (setRange c k vs).size = c.size := by
  induction vs with
  | nil => intro c k; rfl
  | cons v vs ih => intro c k; simp [setRange, ih]

theorem setRange_get (vs : List Value) : ∀ (c : Array Value) (k j : Nat), k + vs.length ≤ c.size →
    (setRange c k vs)[j]? = if k ≤ j ∧ j < k + vs.length then vs[j - k]? else c[j]? := by
  induction vs with
  | nil => intro c k j _; simp [setRange]; intro h1 h2; omega
  | cons v vs ih =>
    intro c k j hk
    simp only [List.length_cons] at hk
    rw [setRange, ih _ _ _ (by simp; omega)]
    simp only [List.length_cons, Array.getElem?_setIfInBounds]
    by_cases h1 : k + 1 ≤ j ∧ j < k + 1 + vs.length
    · rw [if_pos h1, if_pos ⟨by omega, by omega⟩]
      obtain ⟨m, rfl⟩ : ∃ m, j = k + 1 + m := ⟨j - (k + 1), by omega⟩
      rw [show k + 1 + m - (k + 1) = m by omega, show k + 1 + m - k = m + 1 by omega]
      rfl
    · rw [if_neg h1]
      by_cases h2 : k = j
      · subst h2
        rw [if_pos rfl, if_pos (by omega), if_pos ⟨by omega, by omega⟩]
        simp
      · rw [if_neg h2, if_neg (by omega)]

theorem run_storeCells (P : Program) (vs : List Value) : ∀ (w : World) (b o i : Nat) (c : Array Value) (t : TypeId) (fr : Nat × Nat), w.heap[b]? = some (.cells c t fr) → thawed c fr →
    (∀ v ∈ vs, v.oneCell' = true) → o + i + vs.length ≤ c.size →
    (storeCells ⟨b, o, none⟩ vs i).run P w = .ok () { w with heap := w.heap.setIfInBounds b (.cells (setRange c (o + i) vs) t fr) } := by
  induction vs with
  | nil =>
    intro w b o i c t fr hb _ _ _
    have : w.heap.setIfInBounds b (.cells c t fr) = w.heap := by
      apply Array.ext_getElem?
      intro j
      rw [Array.getElem?_setIfInBounds]
      split
      · next h => subst h; obtain ⟨h1, h2⟩ := Array.getElem?_eq_some_iff.1 hb; simp [h1, h2]
      · rfl
    simp [storeCells, setRange, this]
  | cons v vs ih =>
    intro w b o i c t fr hb hfr hv hs
    simp only [List.length_cons] at hs
    have hlt : b < w.heap.size := (Array.getElem?_eq_some_iff.1 hb).1
    have hcell : w.cell? ⟨b, o + i, none⟩ = some c[o + i] := by rw [cell_of_cells hb]; exact Array.getElem?_eq_getElem (by omega)
    have hfz : w.frozen? ⟨b, o + i, none⟩ = false := by
      unfold World.frozen?
      simp only [hb]
      have := hfr (o + i) (by omega)
      simp only [Bool.and_eq_false_iff, decide_eq_false_iff_not]
      omega
    have hset : w.setCell ⟨b, o + i, none⟩ v = { w with heap := w.heap.setIfInBounds b (.cells (c.setIfInBounds (o + i) v) t fr) } := by
      unfold World.setCell
      congr 1
      apply Array.ext_getElem?
      intro j
      simp only [Array.getElem?_modify, Array.getElem?_setIfInBounds]
      by_cases hj : b = j
      · subst hj; simp [(Array.getElem?_eq_some_iff.1 hb).2, hlt]
      · simp [hj]
    rw [storeCells, Sem.run_bind, add_none, run_store P w _ v .plain (hv v (by simp)), hcell]
    simp only [hfz, Bool.false_eq_true, if_false, Result.andThen_ok]
    rw [hset, ih _ b o (i + 1) (c.setIfInBounds (o + i) v) t fr (by simp [hlt]) (by intro j hj; exact hfr j (by simpa using hj)) (fun x hx => hv x (by simp [hx])) (by simp; omega)]
    simp [setRange, Nat.add_assoc]

theorem run_loadCellsFrom (P : Program) (w : World) (b o : Nat) (ys : List Value) : ∀ (i : Nat) (acc : Array Value), (∀ j y, ys[j]? = some y → w.cell? ⟨b, o + (i + j), none⟩ = some y) →
    (loadCellsFrom ⟨b, o, none⟩ i ys.length acc).run P w = .ok (acc ++ ys.toArray) w := by
  induction ys with
  | nil => intro i acc _; simp [loadCellsFrom]
  | cons y ys ih =>
    intro i acc hc
    have h0 := hc 0 y rfl
    rw [List.length_cons, loadCellsFrom, Sem.run_bind, add_none, run_load]
    simp only [Nat.add_zero] at h0
    simp only [h0, Result.andThen_ok]
    rw [ih (i + 1) (acc.push y) (fun j z hz => by have := hc (j + 1) z (by simpa using hz); rw [← this]; congr 2; omega)]
    simp

theorem run_loadCells (P : Program) (w : World) (b o : Nat) (ys : List Value) (hc : ∀ j y, ys[j]? = some y → w.cell? ⟨b, o + j, none⟩ = some y) :
    (loadCells ⟨b, o, none⟩ ys.length).run P w = .ok ys.toArray w := by
  unfold loadCells
  rw [run_loadCellsFrom P w b o ys 0 #[] (fun j y h => by rw [Nat.zero_add]; exact hc j y h)]
  simp

def updN {α : Type} (f : Nat → α) (n : Nat) (x : α) : Nat → α := fun i => if i = n then x else f i

theorem ObRep.block {κ : Kap} {R : Nat → Prop} {h : Nat → Ob} {w : World} {s b o : Nat} {ob : Ob} (hr : ObRep κ R h w s ob) (hs : ob.stride ≠ none) (hk : κ s = some (b, o)) : b < w.heap.size := by
  cases ob with
  | void => simp [Ob.stride] at hs
  | dead => simp [Ob.stride] at hs
  | box st cs => obtain ⟨b', o', c, t, fr, h1, h2, _⟩ := hr; rw [hk] at h1; cases h1; exact (Array.getElem?_eq_some_iff.1 h2).1
  | arr st fz es =>
    rcases hr with ⟨h1, _⟩ | ⟨b', o', c, t, fr, h1, h2, _⟩
    · rw [hk] at h1; cases h1
    · rw [hk] at h1; cases h1; exact (Array.getElem?_eq_some_iff.1 h2).1

theorem ObRep.notR {κ : Kap} {R : Nat → Prop} {h : Nat → Ob} {w : World} {s b o : Nat} {ob : Ob} (hr : ObRep κ R h w s ob) (hl : ob.live = true) (hk : κ s = some (b, o)) : ¬ R b := by
  cases ob with
  | void => simp [Ob.live] at hl
  | dead => simp [Ob.live] at hl
  | box st cs => obtain ⟨b', o', c, t, fr, h1, h2, _, h4, _⟩ := hr; rw [hk] at h1; cases h1; exact h4
  | arr st fz es =>
    rcases hr with ⟨h1, _⟩ | ⟨b', o', c, t, fr, h1, h2, _, _, h5, _⟩
    · rw [hk] at h1; cases h1
    · rw [hk] at h1; cases h1; exact h5 (by simpa [Ob.live] using hl)

theorem Ob.live_stride {ob : Ob} (h : ob.live = true) : ob.stride ≠ none := by cases ob <;> simp_all [Ob.live, Ob.stride]

/-- A stride that is not live is frozen: its block is read alone. -/
theorem ObRep.inR {κ : Kap} {R : Nat → Prop} {h : Nat → Ob} {w : World} {s b o : Nat} {ob : Ob} (hr : ObRep κ R h w s ob) (hs : ob.stride ≠ none) (hl : ob.live ≠ true) (hk : κ s = some (b, o)) : R b := by
  cases ob with
  | void => simp [Ob.stride] at hs
  | dead => simp [Ob.stride] at hs
  | box st cs => simp [Ob.live] at hl
  | arr st fz es =>
    rcases hr with ⟨h1, _⟩ | ⟨b', o', c, t, fr, h1, h2, _, h4, _⟩
    · rw [hk] at h1; cases h1
    · rw [hk] at h1; cases h1; exact h4 (by simpa [Ob.live] using hl)

/-- One block is new or written: of an object that lies there (nb itself, or one that goes), or of none. -/
theorem step_put {κ : Kap} {R : Nat → Prop} {h : Nat → Ob} {w w' : World} (hH : HRep G κ R h w) (nb b o : Nat) (ob : Ob) (killed : Nat → Bool)
    (hos : w'.os = w.os) (htape : w'.tape = w.tape) (hout : w'.output = w.output) (hgrow : w.heap.size ≤ w'.heap.size) (hb' : b < w'.heap.size)
    (hw : ∀ x, x ≠ b → x < w.heap.size → w'.heap[x]? = w.heap[x]?)
    (hsz : ∀ (c : Array Value) (t : TypeId) (fr : Nat × Nat), w.heap[b]? = some (Obj.cells c t fr) → ∃ (c' : Array Value) (fr' : Nat × Nat), w'.heap[b]? = some (Obj.cells c' t fr') ∧ c'.size = c.size)
    (hsrc : w.heap.size ≤ b ∨ ∃ s o', (h s).live = true ∧ κ s = some (b, o') ∧ (s = nb ∨ killed s = true))
    (hnb : h nb = .void ∨ (ob.stride = (h nb).stride ∧ κ nb = some (b, o) ∧ h nb ≠ .dead)) (hkn : killed nb = false)
    (hob : Ext κ R h w (updN κ nb (some (b, o))) R (fun s => if s = nb then ob else if killed s then .dead else h s) w' →
      ¬ R b → ObRep (updN κ nb (some (b, o))) R (fun s => if s = nb then ob else if killed s then .dead else h s) w' nb ob) :
    HRep G (updN κ nb (some (b, o))) R (fun s => if s = nb then ob else if killed s then .dead else h s) w' ∧
    Fr κ R h w (updN κ nb (some (b, o))) R (fun s => if s = nb then ob else if killed s then .dead else h s) w' := by
  have hRb : ¬ R b := by
    rcases hsrc with h0 | ⟨s, o', hl, hk, _⟩
    · intro hR; have := hH.old b hR; omega
    · exact (hH.obs s).notR hl hk
  have hext : Ext κ R h w (updN κ nb (some (b, o))) R (fun s => if s = nb then ob else if killed s then .dead else h s) w' := by
    refine ⟨fun _ hx => hx, fun x hx => ?_, fun x c t fr hx => ?_, fun s => ?_⟩
    · exact hw x (fun e => hRb (e ▸ hx)) (hH.old x hx)
    · by_cases hxb : x = b
      · subst hxb; exact hsz c t fr hx
      · exact ⟨c, fr, by rw [hw x hxb (Array.getElem?_eq_some_iff.1 hx).1]; exact hx, rfl⟩
    · by_cases hs : s = nb
      · subst hs
        rcases hnb with h0 | ⟨h0, h1, h2⟩
        · exact .inl h0
        · exact .inr (.inr ⟨by simp [updN, h1], by simp [h0], h2⟩)
      · by_cases hk : killed s = true
        · exact .inr (.inl (by simp [hs, hk]))
        · by_cases hd : h s = .dead
          · exact .inr (.inl (by simp [hs, hk, hd]))
          · exact .inr (.inr ⟨by simp [updN, hs], by simp [hs, hk], hd⟩)
  -- an untouched slot does not lie in b
  have hun : ∀ s o0, s ≠ nb → killed s ≠ true → (h s).stride ≠ none → κ s = some (b, o0) → False := by
    intro s o0 hs hk hst hks
    rcases hsrc with h0 | ⟨s', o', hl, hk', h1⟩
    · have := (hH.obs s).block hst hks; omega
    · by_cases hlv : (h s).live = true
      · have := hH.inj s s' b o0 o' hlv hl hks hk'
        subst this
        rcases h1 with h1 | h1
        · exact hs h1
        · exact hk h1
      · exact hRb ((hH.obs s).inR hst hlv hks)
  refine ⟨hH.step hext (fun s => s = nb ∨ killed s = true) (fun s hs => ?_) (fun s hs => ?_) (fun i j x o1 o2 hi hl1 hl2 hk1 hk2 => ?_) (fun x hx => Nat.lt_of_lt_of_le (hH.old x hx) hgrow), ?_⟩
  · have hs1 : s ≠ nb := fun e => hs (.inl e)
    have hs2 : ¬ killed s = true := fun e => hs (.inr e)
    refine ⟨by simp [hs1, hs2], by simp [updN, hs1], fun hst x o0 hk => ?_, fun hl x o0 hk => (hH.obs s).notR hl hk⟩
    exact hw x (fun e => hun s o0 hs1 hs2 hst (e ▸ hk)) ((hH.obs s).block hst hk)
  · by_cases hsn : s = nb
    · subst hsn; simp only [if_true]; exact hob hext hRb
    · rcases hs with hs | hs
      · exact absurd hs hsn
      · simp only [if_neg hsn, hs, if_true]; trivial
  · have hi' : i = nb := by
      rcases hi with hi | hi
      · exact hi
      · by_cases hin : i = nb
        · exact hin
        · simp [hin, hi, Ob.live] at hl1
    subst hi'
    simp only [updN, if_true, Option.some.injEq, Prod.mk.injEq] at hk1
    obtain ⟨rfl, rfl⟩ := hk1
    by_cases hj : j = i
    · exact hj.symm
    · by_cases hkj : killed j = true
      · simp [hj, hkj, Ob.live] at hl2
      · simp only [if_neg hj, hkj, Bool.false_eq_true, if_false] at hl2
        simp only [updN, if_neg hj] at hk2
        exact (hun j o2 hj hkj (Ob.live_stride hl2) hk2).elim
  · refine ⟨hext, hos, htape, hout, hgrow, fun x hx hn => ?_, fun s x o0 hl hk => ?_, fun x hx => .inl hx⟩
    · refine hw x (fun e => ?_) hx
      subst e
      rcases hsrc with h0 | ⟨s, o', hl, hk, _⟩
      · omega
      · exact hn s o' hl hk
    · by_cases hs : s = nb
      · subst hs
        simp only [updN, if_true, Option.some.injEq, Prod.mk.injEq] at hk
        obtain ⟨rfl, rfl⟩ := hk
        rcases hsrc with h0 | ⟨s', o', hl', hk', _⟩
        · exact .inl h0
        · exact .inr ⟨s', o', hl', hk'⟩
      · by_cases hks : killed s = true
        · simp [hs, hks, Ob.live] at hl
        · simp only [if_neg hs, hks, Bool.false_eq_true, if_false] at hl
          simp only [updN, if_neg hs] at hk
          exact .inr ⟨s, o0, hl, hk⟩

/-- The heap is as it was, block by block. -/
theorem step_same {κ : Kap} {R : Nat → Prop} {h : Nat → Ob} {w w' : World} (hH : HRep G κ R h w) (hheap : w'.heap = w.heap) (hos : w'.os = w.os) (htape : w'.tape = w.tape) (hout : w'.output = w.output) :
    HRep G κ R h w' ∧ Fr κ R h w κ R h w' := by
  have hext : Ext κ R h w κ R h w' := ⟨fun _ hx => hx, fun x _ => by rw [hheap], fun x c t fr hx => ⟨c, fr, by rw [hheap]; exact hx, rfl⟩, (Ext.refl κ R h w).slot⟩
  refine ⟨hH.step hext (fun _ => False) (fun s _ => ⟨rfl, rfl, fun _ x o _ => by rw [hheap], fun hl x o hk => (hH.obs s).notR hl hk⟩) (fun _ hs => hs.elim) (fun _ _ _ _ _ hs => hs.elim) (fun x hx => by rw [hheap]; exact hH.old x hx), ?_⟩
  exact ⟨hext, hos, htape, hout, by rw [hheap]; exact Nat.le_refl _, fun x _ _ => by rw [hheap], fun s x o hl hk => .inr ⟨s, o, hl, hk⟩, fun x hx => .inl hx⟩

/-- Objects go. -/
theorem step_kill {κ : Kap} {R : Nat → Prop} {h : Nat → Ob} {w : World} (hH : HRep G κ R h w) (k : Nat) :
    HRep G κ R (updN h k .dead) w ∧ Fr κ R h w κ R (updN h k .dead) w := by
  have hext : Ext κ R h w κ R (updN h k .dead) w := ⟨fun _ hx => hx, fun _ _ => rfl, fun x c t fr hx => ⟨c, fr, hx, rfl⟩, fun s => by
    by_cases hs : s = k
    · exact .inr (.inl (by simp [updN, hs]))
    · by_cases hd : h s = .dead
      · exact .inr (.inl (by simp [updN, hs, hd]))
      · exact .inr (.inr ⟨rfl, by simp [updN, hs], hd⟩)⟩
  refine ⟨hH.step hext (fun s => s = k) (fun s hs => ⟨by simp [updN, hs], rfl, fun _ _ _ _ => rfl, fun hl x o hk => (hH.obs s).notR hl hk⟩) (fun s hs => by subst hs; simp only [updN, if_true]; trivial)
    (fun i j x o o' hi hl _ _ _ => by subst hi; simp [updN, Ob.live] at hl) hH.old, ?_⟩
  refine ⟨hext, rfl, rfl, rfl, Nat.le_refl _, fun _ _ _ => rfl, fun s x o hl hk => .inr ?_, fun x hx => .inl hx⟩
  by_cases hs : s = k
  · simp [updN, hs, Ob.live] at hl
  · simp only [updN, if_neg hs] at hl; exact ⟨s, o, hl, hk⟩

/-- An array is written no more. -/
theorem step_freeze {κ : Kap} {R : Nat → Prop} {h : Nat → Ob} {w : World} (hH : HRep G κ R h w) (k s : Nat) (fz : Bool) (es : List (List PC)) (hk : h k = .arr s fz es) :
    HRep G κ (fun b => R b ∨ ∃ o, κ k = some (b, o)) (updN h k (.arr s true es)) w ∧ Fr κ R h w κ (fun b => R b ∨ ∃ o, κ k = some (b, o)) (updN h k (.arr s true es)) w := by
  have hext : Ext κ R h w κ (fun b => R b ∨ ∃ o, κ k = some (b, o)) (updN h k (.arr s true es)) w := ⟨fun _ hx => .inl hx, fun _ _ => rfl, fun x c t fr hx => ⟨c, fr, hx, rfl⟩, fun i => by
    by_cases hi : i = k
    · exact .inr (.inr ⟨rfl, by simp [updN, hi, hk, Ob.stride], by rw [hi, hk]; simp⟩)
    · by_cases hd : h i = .dead
      · exact .inr (.inl (by simp [updN, hi, hd]))
      · exact .inr (.inr ⟨rfl, by simp [updN, hi], hd⟩)⟩
  have hst : (h k).stride ≠ none := by rw [hk]; simp [Ob.stride]
  refine ⟨hH.step hext (fun i => i = k) (fun i hi => ⟨by simp [updN, hi], rfl, fun _ _ _ _ => rfl, fun hl x o hki hR => ?_⟩) (fun i hi => ?_) (fun i j x o o' hi hl _ _ _ => by subst hi; simp [updN, Ob.live] at hl) (fun x hx => ?_), ?_⟩
  · rcases hR with hR | ⟨o', hkk⟩
    · exact (hH.obs i).notR hl hki hR
    · by_cases hlk : (h k).live = true
      · exact hi (hH.inj i k x o o' hl hlk hki hkk)
      · exact (hH.obs i).notR hl hki ((hH.obs k).inR hst hlk hkk)
  · subst hi
    have hob := hH.obs i
    rw [hk] at hob
    simp only [updN, if_true]
    rcases hob with hob | ⟨b, o, c, t, fr, h1, h2, h3, h4, h5, h6, h7⟩
    · exact .inl hob
    · exact .inr ⟨b, o, c, t, fr, h1, h2, h3, fun _ => .inr ⟨o, h1⟩, fun e => by simp at e, h6, fun i l hl => ⟨(h7 i l hl).1, fun j x hx => by
        obtain ⟨y, hy, hr⟩ := (h7 i l hl).2 j x hx
        exact ⟨y, hy, hr.ext hext.r hext.cells⟩⟩⟩
  · rcases hx with hx | ⟨o, hx⟩
    · exact hH.old x hx
    · exact (hH.obs k).block hst hx
  · refine ⟨hext, rfl, rfl, rfl, Nat.le_refl _, fun _ _ _ => rfl, fun i x o hl hki => .inr ?_, fun x hx => ?_⟩
    · by_cases hi : i = k
      · simp [updN, hi, Ob.live] at hl
      · simp only [updN, if_neg hi] at hl; exact ⟨i, o, hl, hki⟩
    · rcases hx with hx | ⟨o, hx⟩
      · exact .inl hx
      · by_cases hlk : (h k).live = true
        · exact .inr (.inr ⟨k, o, hlk, hx⟩)
        · exact .inl ((hH.obs k).inR hst hlk hx)

end Go.Ev

namespace Go.Ev
open Go
variable {G : Nat → Option (List PC)}

def opndTmps (o : Oper) : List Tmp := o.op.operands.toList.filterMap fun | .tmp t => some t | _ => none

/-- What an operation comes to. -/
def RunsTo (P : Program) (a : Act) (w : World) (o : Oper) (y : Value) (w' : World) : Prop :=
  (execOp a.eval o).run P w = .ok (.value y) w' ∨ ((execOp a.eval o).run P w = .ok .skip w' ∧ y = undef)

/-- States alike in what an operation sees. -/
structure Alike (o : Oper) (N : Nat) (t t' : Nat → AV) (h h' : Nat → Ob) (nb : Nat) (out : Out) : Prop where
  tmps : ∀ x ∈ opndTmps o, t' x = t x
  regs : ∀ r ∈ out.rd, r.getF h' = r.getF h
  free : ∀ s, nb ≤ s → s < out.nb → h' s = .void

def RunF (E : Env) (o : Oper) (N : Nat) (t : Nat → AV) (h : Nat → Ob) (nb : Nat) (out : Out) : Prop :=
  ∀ (t' : Nat → AV) (h' : Nat → Ob) (κ : Kap) (R : Nat → Prop) (a : Act) (w : World), Alike o N t t' h h' nb out → Rel E.G κ R N t' h' a w →
    ∃ (κ' : Kap) (R' : Nat → Prop) (y : Value) (w' : World), RunsTo E.P a w o y w' ∧ VRep κ' R' (putsF h' out.wr) w' out.v y ∧ HRep E.G κ' R' (putsF h' out.wr) w' ∧ Fr κ R h' w κ' R' (putsF h' out.wr) w'

def SimF (E : Env) (o : Oper) (N : Nat) (t : Nat → AV) (h : Nat → Ob) (nb : Nat) (out : Out) : Prop :=
  ∀ (t' : Nat → AV) (h' : Nat → Ob) (κ : Kap) (R : Nat → Prop) (a : Act) (w : World), Alike o N t t' h h' nb out → Rel E.G κ R N t' h' a w →
    ∀ (next : Act → World → Prop) (Q : Exit → Act → World → Prop),
      (∀ (κ' : Kap) (R' : Nat → Prop) (y : Value) (w' : World), Rel E.G κ' R' N (putTF N t' o.dst out.v) (putsF h' out.wr) (a.put o.dst y) w' → Fr κ R h' w κ' R' (putsF h' out.wr) w' → next (a.put o.dst y) w') →
      o.wp E.P a w next Q

theorem Rel.put {κ κ' : Kap} {R R' : Nat → Prop} {N : Nat} {t : Nat → AV} {h h' : Nat → Ob} {a : Act} {w w' : World} (hr : Rel G κ R N t h a w) (he : Ext κ R h w κ' R' h' w') (hh : HRep G κ' R' h' w')
    (dst : Option Tmp) {v : AV} {y : Value} (hv : VRep κ' R' h' w' v y) : Rel G κ' R' N (putTF N t dst v) h' (a.put dst y) w' := by
  cases dst with
  | none => exact ⟨hr.defers, hr.size, fun i z hz => (hr.tmps i z hz).ext he, hh⟩
  | some d =>
    refine ⟨hr.defers, by simp [Act.put, hr.size], fun i z hz => ?_, hh⟩
    simp only [Act.put, Array.getElem?_setIfInBounds] at hz
    simp only [putTF]
    by_cases hd : d = i
    · subst hd
      by_cases hN : d < N
      · rw [if_pos ⟨rfl, hN⟩]
        rw [if_pos rfl, if_pos (by rw [hr.size]; exact hN)] at hz
        cases hz; exact hv
      · rw [if_pos rfl, if_neg (by rw [hr.size]; exact hN)] at hz
        cases hz
    · rw [if_neg (by intro e; exact hd e.1.symm)]
      rw [if_neg hd] at hz
      exact (hr.tmps i z hz).ext he

theorem RunF.sim {E : Env} {o : Oper} {N : Nat} {t : Nat → AV} {h : Nat → Ob} {nb : Nat} {out : Out} (hf : RunF E o N t h nb out) : SimF E o N t h nb out := by
  intro t' h' κ R a w hal hrel next Q hn
  obtain ⟨κ', R', y, w', hrun, hv, hh, hfr⟩ := hf t' h' κ R a w hal hrel
  have := hn κ' R' y w' (hrel.put hfr.ext hh o.dst hv) hfr
  unfold Oper.wp
  rcases hrun with hrun | ⟨hrun, rfl⟩
  · rw [hrun]; exact this
  · rw [hrun]; exact this

/-- An operation that makes a value and leaves memory alone. -/
theorem RunF.of_value {E : Env} {o : Oper} {N : Nat} {t : Nat → AV} {h : Nat → Ob} {nb : Nat} {v : AV} {rd : List Reg} {nb' : Nat}
    (hf : ∀ (t' : Nat → AV) (h' : Nat → Ob) (κ : Kap) (R : Nat → Prop) (a : Act) (w : World), Alike o N t t' h h' nb ⟨v, [], rd, nb'⟩ → Rel E.G κ R N t' h' a w →
      ∃ y, (execOp a.eval o).run E.P w = .ok (.value y) w ∧ VRep κ R h' w v y) : RunF E o N t h nb ⟨v, [], rd, nb'⟩ := by
  intro t' h' κ R a w hal hrel
  obtain ⟨y, h1, h2⟩ := hf t' h' κ R a w hal hrel
  exact ⟨κ, R, y, w, .inl h1, h2, hrel.heap, Fr.refl ..⟩

theorem mem_opnd {o : Oper} {t : Tmp} (h : Operand.tmp t ∈ o.op.operands) : t ∈ opndTmps o := by
  unfold opndTmps
  rw [List.mem_filterMap]
  exact ⟨.tmp t, by simpa using h, rfl⟩

theorem tget_of {tm : List AV} {t : Nat} {v : AV} (h : tm[t]? = some v) : tget tm t = v ∧ t < tm.length := by
  refine ⟨by simp [tget, h], (List.getElem?_eq_some_iff.1 h).1⟩

theorem rep_ofValue {κ : Kap} {R : Nat → Prop} {h : Nat → Ob} {w : World} (v : Value) : VRep κ R h w (ofValue v) v := by
  cases v with
  | agg cs =>
    show VRep κ R h w (if cs.toList.all (·.oneCell') then .s (.pagg (cs.toList.map .v)) else .s .dead) (.agg cs)
    split
    · next hall =>
      refine ⟨cs.toList, by simp, by simp, fun i c y hc hy => ?_⟩
      rw [List.getElem?_map, hy] at hc
      cases hc
      exact .v y (List.all_eq_true.1 hall y (List.mem_of_getElem? hy))
    · trivial
  | tuple vs => trivial
  | _ => exact .p _ _ (.v _ rfl)

/-- An operand's value. -/
theorem operand_rep {κ : Kap} {R : Nat → Prop} {t' : Nat → AV} {h' : Nat → Ob} {a : Act} {w : World} {tm : List AV} (hrel : Rel G κ R tm.length t' h' a w)
    {x : Operand} {v : AV} (hx : operand tm x = some v) (hal : ∀ t, x = .tmp t → t' t = tget tm t) : VRep κ R h' w v (a.eval x) := by
  cases x with
  | tmp t =>
    obtain ⟨h1, h2⟩ := tget_of hx
    have hlt : t < a.tmps.size := by rw [hrel.size]; exact h2
    have := hrel.tmps t a.tmps[t] (Array.getElem?_eq_getElem hlt)
    rw [hal t rfl, h1] at this
    simpa [Act.eval, Array.getD_eq_getD_getElem?, hlt] using this
  | const c => simp only [operand, Option.some.injEq] at hx; subst hx; exact rep_ofValue c
  | global g => simp only [operand, Option.some.injEq] at hx; subst hx; exact .p _ _ (.v _ rfl)
  | func f =>
    simp only [operand, Option.some.injEq] at hx; subst hx
    exact .clo f [] [] rfl (fun i c v hc => by simp at hc)

theorem Alike.opnd {o : Oper} {N : Nat} {tm : List AV} {t' : Nat → AV} {h h' : Nat → Ob} {nb : Nat} {out : Out} (ha : Alike o N (tget tm) t' h h' nb out) {x : Operand} (hx : x ∈ o.op.operands) :
    ∀ t, x = .tmp t → t' t = tget tm t := by
  rintro t rfl
  exact ha.tmps t (mem_opnd hx)

theorem val_rep {κ : Kap} {R : Nat → Prop} {h : Nat → Ob} {w : World} {v : AV} {x y : Value} (hv : v.val = some x) (hr : VRep κ R h w v y) : y = x := by
  unfold AV.val at hv
  split at hv
  · cases hv
    cases hr with
    | p _ _ hp => cases hp; rfl
  · cases hv

theorem run_underlying' {P : Program} {t : TypeId} {d : TypeDesc} (h : P.underlying t = some d) (w : World) : (underlying t).run P w = .ok d w := by
  simp [underlying, h]
theorem run_sizeOf' {P : Program} {t : TypeId} {n : Nat} (h : szOf P t = some n) (w : World) : (sizeOf t).run P w = .ok n w := by
  unfold szOf at h
  simp only [Option.map_eq_some_iff] at h
  obtain ⟨i, hi, rfl⟩ := h
  simp [sizeOf, typeInfo, hi]
theorem run_isAgg' {P : Program} {t : TypeId} {b : Bool} (h : aggT P t = some b) (w : World) : (isAgg t).run P w = .ok b w := by
  unfold aggT at h
  simp only [Option.map_eq_some_iff] at h
  obtain ⟨d, hd, rfl⟩ := h
  unfold isAgg
  rw [Sem.run_bind, run_underlying' hd]
  cases d <;> rfl
theorem run_zero' {P : Program} {t : TypeId} {z : List Value} (h : zeroCells P t = some z) (w : World) : ∃ v : Value, (zeroValue t).run P w = .ok v w ∧ v.cells.toList = z ∧ ∀ x ∈ z, x.oneCell' = true := by
  unfold zeroCells at h
  simp only [Option.bind_eq_some_iff] at h
  obtain ⟨v, ⟨i, hi, hz⟩, h⟩ := h
  split at h
  · next hall => cases h; exact ⟨v, by simp [zeroValue, typeInfo, hi, hz], rfl, fun x hx => List.all_eq_true.1 hall x hx⟩
  · cases h

section ops
variable {ρ : Type} {E : Env} {tm : List AV} {H : List Ob} {nb : Nat} {K : Out → Option ρ} {r : ρ}
variable {dst : Option Tmp} {ty : TypeId} {pos : String} {after : Array Edge} {guard : Option (Nat × Bool)}

/-- The conclusion of each operation's law. -/
def Does (E : Env) (tm : List AV) (H : List Ob) (nb : Nat) (o : Oper) (K : Out → Option ρ) (r : ρ) : Prop :=
  ∃ out, K out = some r ∧ RunF E o tm.length (tget tm) (hget H) nb out

theorem sim_move {x : Operand} (h : aop E tm H nb ⟨dst, .move x, ty, pos, after, guard⟩ K = some r) : Does E tm H nb ⟨dst, .move x, ty, pos, after, guard⟩ K r := by
  simp only [aop, Option.bind_eq_some_iff] at h
  obtain ⟨v, hv, hK⟩ := h
  exact ⟨_, hK, .of_value fun t' h' κ R a w hal hrel => ⟨a.eval x, rfl, operand_rep hrel hv (hal.opnd (by simp [Op.operands]))⟩⟩

theorem sim_assign {x : Operand} (h : aop E tm H nb ⟨dst, .assign x, ty, pos, after, guard⟩ K = some r) : Does E tm H nb ⟨dst, .assign x, ty, pos, after, guard⟩ K r := by
  simp only [aop, Option.bind_eq_some_iff] at h
  obtain ⟨v, hv, hK⟩ := h
  exact ⟨_, hK, .of_value fun t' h' κ R a w hal hrel => ⟨a.eval x, rfl, operand_rep hrel hv (hal.opnd (by simp [Op.operands]))⟩⟩

theorem sim_pick {c x y : Operand} (h : aop E tm H nb ⟨dst, .pick c x y, ty, pos, after, guard⟩ K = some r) : Does E tm H nb ⟨dst, .pick c x y, ty, pos, after, guard⟩ K r := by
  simp only [aop, Option.bind_eq_some_iff] at h
  obtain ⟨cv, hc, av, ha, bv, hb, u, hu, hK⟩ := h
  have hval : ∀ (b : Bool) (t' : Nat → AV) (h' : Nat → Ob) (κ : Kap) (R : Nat → Prop) (a : Act) (w : World) (v : AV), u = .bool b → Alike ⟨dst, .pick c x y, ty, pos, after, guard⟩ tm.length (tget tm) t' (hget H) h' nb ⟨v, [], [], nb⟩ → Rel E.G κ R tm.length t' h' a w →
      (execOp a.eval ⟨dst, .pick c x y, ty, pos, after, guard⟩).run E.P w = .ok (.value (if b then a.eval x else a.eval y)) w ∧ VRep κ R h' w av (a.eval x) ∧ VRep κ R h' w bv (a.eval y) := by
    intro b t' h' κ R a w v hub hal hrel
    have h1 := operand_rep hrel hc (hal.opnd (by simp [Op.operands]))
    have h2 := val_rep hu h1
    refine ⟨by simp [execOp, asBool, h2, hub], operand_rep hrel ha (hal.opnd (by simp [Op.operands])), operand_rep hrel hb (hal.opnd (by simp [Op.operands]))⟩
  cases u with
  | bool b =>
    simp only at hK
    unfold pickV at hK
    split at hK
    · next x' y' =>
      refine ⟨_, hK, .of_value fun t' h' κ R a w hal hrel => ?_⟩
      obtain ⟨h1, h2, h3⟩ := hval b t' h' κ R a w _ rfl hal hrel
      have e1 := val_rep (x := .bool x') rfl h2
      have e2 := val_rep (x := .bool y') rfl h3
      refine ⟨_, h1, ?_⟩
      rw [e1, e2]
      cases b <;> exact .p _ _ (.v _ rfl)
    · cases b with
      | true => exact ⟨_, hK, .of_value fun t' h' κ R a w hal hrel => by
          obtain ⟨h1, h2, h3⟩ := hval true t' h' κ R a w _ rfl hal hrel
          exact ⟨_, h1, h2⟩⟩
      | false => exact ⟨_, hK, .of_value fun t' h' κ R a w hal hrel => by
          obtain ⟨h1, h2, h3⟩ := hval false t' h' κ R a w _ rfl hal hrel
          exact ⟨_, h1, h3⟩⟩
  | _ => cases hK

theorem rep_ints {κ : Kap} {R : Nat → Prop} {h : Nat → Ob} {w : World} (k : IntKind) (n : Int) : VRep κ R h w (ints k n) (.int k n) := .p _ _ (.v _ rfl)
theorem rep_bool {κ : Kap} {R : Nat → Prop} {h : Nat → Ob} {w : World} (b : Bool) : VRep κ R h w (boolV b) (.bool b) := .p _ _ (.v _ rfl)

theorem sim_extract {x : Operand} {i : Nat} (h : aop E tm H nb ⟨dst, .extract x i, ty, pos, after, guard⟩ K = some r) : Does E tm H nb ⟨dst, .extract x i, ty, pos, after, guard⟩ K r := by
  simp only [aop, Option.bind_eq_some_iff] at h
  obtain ⟨v, hv, hK⟩ := h
  cases v with
  | s x => cases hK
  | g _ _ _ => cases hK
  | tup l =>
    simp only [Option.bind_eq_some_iff] at hK
    obtain ⟨z, hz, hK⟩ := hK
    refine ⟨_, hK, .of_value fun t' h' κ R a w hal hrel => ?_⟩
    obtain ⟨ys, h1, h2, h3⟩ := operand_rep hrel hv (hal.opnd (by simp [Op.operands]))
    have hlt : i < ys.length := by rw [← h2]; exact (List.getElem?_eq_some_iff.1 hz).1
    refine ⟨ys[i], ?_, h3 i z ys[i] hz (List.getElem?_eq_getElem hlt)⟩
    simp [execOp, h1, Instr.extract, hlt]

end ops

end Go.Ev

namespace Go.Ev
open Go
variable {G : Nat → Option (List PC)}

theorem eqGuard_flat (P : Program) : ∀ (n m : Nat) (t : TypeId), n ≤ m → eqFlat P n t = true → P.eqGuardType m t = false
  | 0, _, _, _, h => by simp [eqFlat] at h
  | n + 1, 0, _, hm, _ => by omega
  | n + 1, m + 1, t, hm, h => by
    unfold eqFlat at h
    unfold Program.eqGuardType
    cases hu : P.underlying t with
    | none => rfl
    | some d =>
      rw [hu] at h
      cases d with
      | struct fs =>
        simp only [Array.all_eq_true] at h
        simp only [Array.any_eq_false]
        intro i hi
        simp [eqGuard_flat P n m _ (by omega) (h i hi)]
      | array k e => exact eqGuard_flat P n m e (by omega) h
      | interface ms => simp at h
      | _ => rfl

theorem part_agg {P : Program} {w : World} {t : TypeId} {s : Nat} {cs : List Value} {off : Nat} (ha : aggT P t = some true) (hs : szOf P t = some s) :
    (part t cs.toArray off).run P w = .ok (.agg ((cs.drop off).take s).toArray) w := by
  unfold part
  rw [Sem.run_bind, run_isAgg' ha]
  simp only [Result.andThen_ok, if_true, Sem.run_bind, run_sizeOf' hs, Sem.run_pure]
  congr 2
  apply Array.ext'
  simp [List.extract_eq_take_drop, Nat.add_sub_cancel_left]

theorem part_one {P : Program} {w : World} {t : TypeId} {cs : List Value} {off : Nat} {v : Value} (ha : aggT P t = some false) (hv : cs[off]? = some v) :
    (part t cs.toArray off).run P w = .ok v w := by
  unfold part
  rw [Sem.run_bind, run_isAgg' ha]
  simp [hv]

/-- A type's value of these cells. -/
def valOf (agg : Bool) (cs : List Value) : Value := if agg then .agg cs.toArray else cs.headD undef

theorem part_val {P : Program} {w : World} {t : TypeId} {s : Nat} {b : Bool} {cs : List Value} {off : Nat} (ha : aggT P t = some b) (hs : szOf P t = some s) (hl : off + s ≤ cs.length) (h1 : b = false → s = 1) :
    (part t cs.toArray off).run P w = .ok (valOf b ((cs.drop off).take s)) w := by
  cases b with
  | true => exact part_agg ha hs
  | false =>
    have h1 := h1 rfl
    subst h1
    have hlt : off < cs.length := by omega
    rw [part_one ha (List.getElem?_eq_getElem hlt)]
    rw [List.drop_eq_getElem_cons hlt]; rfl

section
variable {R : Nat → Prop} {P : Program} {w : World}

theorem PReps.drop {xs : List PC} {vs : List Value} (h : PReps R w xs vs) (off n : Nat) : PReps R w ((xs.drop off).take n) ((vs.drop off).take n) := by
  refine ⟨by simp [h.1], fun i c y hc hy => ?_⟩
  rw [List.getElem?_take] at hc hy
  split at hc
  · next hi => rw [if_pos hi] at hy; rw [List.getElem?_drop] at hc hy; exact h.2 _ c y hc hy
  · cases hc

theorem PReps.one {c : PC} {vs : List Value} (h : PReps R w [c] vs) : ∃ v, vs = [v] ∧ PRep R w c v := by
  obtain ⟨h1, h2⟩ := h
  match vs, h1 with
  | [v], _ => exact ⟨v, rfl, h2 0 c v rfl rfl⟩

theorem PRep.val {x y : Value} (h : PRep R w (.v x) y) : y = x := by cases h; rfl

theorem aggT_some {t : TypeId} {d : TypeDesc} (h : P.underlying t = some d) : aggT P t = some (isAggD d) := by
  unfold aggT; rw [h]; rfl

theorem eqT_run : ∀ (n d : Nat) (t : TypeId) (xs ys : List PC) (vs us : List Value) (b ag : Bool), n ≤ d → eqT P n t xs ys = some b → PReps R w xs vs → PReps R w ys us → aggT P t = some ag →
    (Op.equalIn d t (valOf ag vs) (valOf ag us)).run P w = .ok b w
  | 0, _, _, _, _, _, _, _, _, _, h, _, _, _ => by cases h
  | n + 1, 0, _, _, _, _, _, _, _, hd, _, _, _, _ => by omega
  | n + 1, d + 1, t, xs, ys, vs, us, b, ag, hd, h, hx, hy, hag => by
    unfold eqT at h
    split at h
    · next k0 k a k' b' hu =>
      obtain ⟨v, rfl, hv⟩ := hx.one
      obtain ⟨u, rfl, hu'⟩ := hy.one
      have := hv.val; subst this
      have := hu'.val; subst this
      rw [aggT_some hu] at hag; cases hag
      split at h
      · next hk => subst hk; cases h; exact run_equalIn_int w d t k k0 a b' hu
      · cases h
    · next a b' hu =>
      obtain ⟨v, rfl, hv⟩ := hx.one
      obtain ⟨u, rfl, hu'⟩ := hy.one
      have := hv.val; subst this
      have := hu'.val; subst this
      rw [aggT_some hu] at hag; cases hag; cases h
      exact run_equalIn_bool w d t a b' hu
    · next a b' hu =>
      obtain ⟨v, rfl, hv⟩ := hx.one
      obtain ⟨u, rfl, hu'⟩ := hy.one
      have := hv.val; subst this
      have := hu'.val; subst this
      rw [aggT_some hu] at hag; cases hag; cases h
      exact run_equalIn_string w d t a b' hu
    · next xs ys _ _ _ fs hu =>
      rw [aggT_some hu] at hag; cases hag
      split at h
      · cases h
      · next hst =>
        have hf : P.fieldsOf t = fs := by simp [Program.fieldsOf, hu]
        simp only [valOf, isAggD, if_true]
        rw [run_equalIn_struct (P := P) w d t _ _ (by rw [hf]; exact hu) (by simpa using hst), hf]
        -- the fields
        have key : ∀ (l : List Field) (b : Bool), eqFs (eqT P n) (szOf P) xs ys l = some b → (Op.eqFields d vs.toArray us.toArray l).run P w = .ok b w := by
          intro l
          induction l with
          | nil => intro b hb; cases hb; simp [Op.eqFields]
          | cons f fs ih =>
            intro b hb
            unfold eqFs at hb
            split at hb
            · cases hb
            · next hname =>
              simp only [Option.bind_eq_some_iff] at hb
              obtain ⟨s, hs, hb⟩ := hb
              split at hb
              · next hlen =>
                simp only [Option.bind_eq_some_iff] at hb
                obtain ⟨x, hx1, hb⟩ := hb
                obtain ⟨ag', hag'⟩ : ∃ ag', aggT P f.type = some ag' := by
                  unfold aggT
                  cases hu' : P.underlying f.type with
                  | some d => exact ⟨_, rfl⟩
                  | none =>
                    cases n with
                    | zero => cases hx1
                    | succ n => unfold eqT at hx1; rw [hu'] at hx1; cases hx1
                have h1 : ag' = false → s = 1 := by
                  intro e; subst e
                  cases n with
                  | zero => cases hx1
                  | succ n =>
                    unfold eqT at hx1
                    split at hx1
                    · next he _ => have := congrArg List.length he; simp at this; omega
                    · next he _ => have := congrArg List.length he; simp at this; omega
                    · next he _ => have := congrArg List.length he; simp at this; omega
                    · next hu' => rw [aggT_some hu'] at hag'; cases hag'
                    · next hu' => rw [aggT_some hu'] at hag'; cases hag'
                    · cases hx1
                have hlv : f.offset + s ≤ vs.length := by rw [← hx.1]; exact hlen.1
                have hlu : f.offset + s ≤ us.length := by rw [← hy.1]; exact hlen.2
                have he := eqT_run n d f.type _ _ _ _ x ag' (by omega) hx1 (hx.drop f.offset s) (hy.drop f.offset s) hag'
                have hp1 := part_val (P := P) (w := w) hag' hs hlv h1
                have hp2 := part_val (P := P) (w := w) hag' hs hlu h1
                rw [Op.eqFields]
                simp only [ne_eq, hname, not_false_eq_true, if_true, Sem.run_bind, hp1, hp2, he, Result.andThen_ok]
                cases fs with
                | nil => cases hb; cases b <;> simp [Op.eqFields]
                | cons f' fs' =>
                  simp only [Option.bind_eq_some_iff, Option.some.injEq] at hb
                  obtain ⟨y, hy1, rfl⟩ := hb
                  cases x
                  · simp
                  · simpa using ih y hy1
              · cases hb
        exact key fs.toList b h
    · next xs ys _ _ _ m e hu =>
      rw [aggT_some hu] at hag; cases hag
      simp only [Option.bind_eq_some_iff] at h
      obtain ⟨s, hs, h⟩ := h
      have hs' := hs
      unfold szOf at hs'
      simp only [Option.map_eq_some_iff] at hs'
      obtain ⟨i, hi, hsi⟩ := hs'
      have hcs : P.cellsOf e = s := by simp [Program.cellsOf, hi, hsi]
      simp only [valOf, isAggD, if_true]
      rw [run_equalIn_array (P := P) w d _ _ hu hi, hcs]
      have key : ∀ (l : List Nat) (b : Bool), eqIs (eqT P n e) s xs ys l = some b → (Op.eqItems d e s vs.toArray us.toArray l).run P w = .ok b w := by
        intro l
        induction l with
        | nil => intro b hb; cases hb; simp [Op.eqItems]
        | cons j l ih =>
          intro b hb
          unfold eqIs at hb
          split at hb
          · next hlen =>
            simp only [Option.bind_eq_some_iff, Option.some.injEq] at hb
            obtain ⟨x, hx1, y, hy1, rfl⟩ := hb
            obtain ⟨ag', hag'⟩ : ∃ ag', aggT P e = some ag' := by
              unfold aggT
              cases hu' : P.underlying e with
              | some d => exact ⟨_, rfl⟩
              | none =>
                cases n with
                | zero => cases hx1
                | succ n => unfold eqT at hx1; rw [hu'] at hx1; cases hx1
            have h1 : ag' = false → s = 1 := by
              intro e'; subst e'
              cases n with
              | zero => cases hx1
              | succ n =>
                unfold eqT at hx1
                split at hx1
                · next he _ => have := congrArg List.length he; simp at this; omega
                · next he _ => have := congrArg List.length he; simp at this; omega
                · next he _ => have := congrArg List.length he; simp at this; omega
                · next hu' => rw [aggT_some hu'] at hag'; cases hag'
                · next hu' => rw [aggT_some hu'] at hag'; cases hag'
                · cases hx1
            have hlv : j * s + s ≤ vs.length := by rw [← hx.1]; exact hlen.1
            have hlu : j * s + s ≤ us.length := by rw [← hy.1]; exact hlen.2
            have he := eqT_run n d e _ _ _ _ x ag' (by omega) hx1 (hx.drop (j * s) s) (hy.drop (j * s) s) hag'
            have hp1 := part_val (P := P) (w := w) hag' hs hlv h1
            have hp2 := part_val (P := P) (w := w) hag' hs hlu h1
            rw [Op.eqItems]
            simp only [Sem.run_bind, hp1, hp2, he, Result.andThen_ok]
            cases x
            · simp
            · simpa using ih y hy1
          · cases hb
      exact key _ b h
    · cases h
end


section
variable {κ : Kap} {R : Nat → Prop} {h : Nat → Ob} {w : World}

theorem equalIn_slice {P : Program} {t e : TypeId} (hu : P.underlying t = some (.slice e)) (d : Nat) (A : Option Addr) (l c l' c' : Nat) :
    (Op.equalIn (d + 1) t (.slice A l c) (.slice none l' c')).run P w = .ok A.isNone w := by
  cases A <;> simp only [Op.equalIn, Sem.run_bind, run_underlying' hu, Result.andThen_ok, Option.isNone_none, Option.isNone_some] <;> rfl
theorem equalIn_ptr {P : Program} {t e : TypeId} (hu : P.underlying t = some (.pointer e)) (d : Nat) (A : Option Addr) :
    (Op.equalIn (d + 1) t (.pointer A) (.pointer none)).run P w = .ok A.isNone w := by
  cases A <;> simp only [Op.equalIn, Sem.run_bind, run_underlying' hu, Result.andThen_ok, Option.isNone_none, Option.isNone_some] <;> rfl

theorem nilSl_rep {a : C} {x : Value} {r : Bool} (ha : CRep κ R h w a x) (hr : nilSl a = some r) : ∃ A l c, x = .slice A l c ∧ r = A.isNone := by
  unfold nilSl at hr
  split at hr
  · cases ha with | p _ _ hp => cases hp; cases hr; exact ⟨_, _, _, rfl, rfl⟩
  · cases ha with | p _ _ hp => cases hp; cases hr; exact ⟨_, _, _, rfl, rfl⟩
  · cases ha with
    | p _ _ hp =>
      cases hp with
      | sl _ _ _ A len cap f b o h1 h2 h3 h4 h5 h6 h7 =>
        cases hr
        refine ⟨_, _, _, rfl, ?_⟩
        have := h3 rfl
        cases A with
        | none => exact absurd rfl this
        | some _ => rfl
  · cases ha with
    | p _ _ hp =>
      cases hp with
      | sl _ _ _ A len cap f b o h1 h2 h3 h4 h5 h6 h7 =>
        cases hr
        refine ⟨_, _, _, rfl, ?_⟩
        have := (h5 (by simp)).1
        rw [this]; rfl
  · cases hr

theorem nilPtr_rep {a : C} {x : Value} {r : Bool} (ha : CRep κ R h w a x) (hr : nilPtr a = some r) : ∃ A, x = .pointer A ∧ r = A.isNone := by
  unfold nilPtr at hr
  split at hr
  · cases ha with | p _ _ hp => cases hp; cases hr; exact ⟨_, rfl, rfl⟩
  · cases ha with | p _ _ hp => cases hp; cases hr; exact ⟨_, rfl, rfl⟩
  · cases hr; cases ha <;> exact ⟨_, rfl, rfl⟩
  · cases hr; cases ha <;> exact ⟨_, rfl, rfl⟩
  · cases hr; cases ha; exact ⟨_, rfl, rfl⟩
  · cases hr

theorem notNil_rep {a : C} {x : Value} (ha : CRep κ R h w a x) (hn : notNil a = true) : (∃ p, x = .pointer (some p)) ∨ ∃ f cs, x = .func (.func f) #[] cs := by
  unfold notNil at hn
  split at hn
  · cases ha with | p _ _ hp => cases hp; exact .inl ⟨_, rfl⟩
  · cases ha <;> exact .inl ⟨_, rfl⟩
  · cases ha <;> exact .inl ⟨_, rfl⟩
  · cases ha; exact .inl ⟨_, rfl⟩
  · cases ha; exact .inr ⟨_, _, rfl⟩
  · cases hn

theorem isSlNil_rep {b : C} {y : Value} (hb : b.isSlNil = true) (hy : CRep κ R h w b y) : ∃ l c, y = .slice none l c := by
  unfold C.isSlNil at hb
  split at hb
  · cases hy with | p _ _ hp => cases hp; exact ⟨_, _, rfl⟩
  · cases hb

theorem isPtrNil_rep {b : C} {y : Value} (hb : b.isPtrNil = true) (hy : CRep κ R h w b y) : y = .pointer none := by
  unfold C.isPtrNil at hb
  split at hb
  · cases hy with | p _ _ hp => cases hp; rfl
  · cases hb
end

section ops
variable {ρ : Type} {E : Env} {tm : List AV} {H : List Ob} {nb : Nat} {K : Out → Option ρ} {r : ρ}
variable {dst : Option Tmp} {ty : TypeId} {pos : String} {after : Array Edge} {guard : Option (Nat × Bool)}

theorem run_eqGuard_none (P : Program) (w : World) (op : BinOp) (t : TypeId) (x y : Operand) (a b : Value) (h1 : ∀ c d, a = .agg c → b = .agg d → False) (h2 : a = .nilIface → False) :
    (eqGuard op t x y a b).run P w = .ok () w := by
  unfold eqGuard
  cases op
  case eql | neq =>
    simp only [Bool.not_true, Bool.false_eq_true, if_false]
    split
    · exact (h2 rfl).elim
    · exact (h1 _ _ rfl rfl).elim
    · rfl
  all_goals rfl

/-- The value of an operator: what it comes to in every state of these operands. -/
theorem sim_bin {P : Program} {op : BinOp} {t : TypeId} {x y : Operand} {v u : AV} {K : AV → Option ρ} (hK : binAny P op t v u K = some r) :
    ∃ z, K z = some r ∧ ∀ (κ : Kap) (R : Nat → Prop) (h : Nat → Ob) (w : World) (a b : Value), VRep κ R h w v a → VRep κ R h w u b →
      ∃ c, ((do eqGuard op t x y a b; binOp op t a b : Sem Value)).run P w = .ok c w ∧ VRep κ R h w z c := by
  unfold binAny at hK
  split at hK
  · next k a k' b =>
    -- integers
    have hg : ∀ (w : World) (a' b' : Value), a' = .int k a → b' = .int k' b → (eqGuard op t x y a' b').run P w = .ok () w := by
      rintro w _ _ rfl rfl
      exact run_eqGuard_none P w op t x y _ _ (fun _ _ e => by cases e) (fun e => by cases e)
    have hshift : binShift op k a b K = some r → (op = .shl ∨ op = .shr) → ∃ z, K z = some r ∧ ∀ (κ : Kap) (R : Nat → Prop) (h : Nat → Ob) (w : World) (a' b' : Value), VRep κ R h w (.s (.one (.p (.v (.int k a))))) a' → VRep κ R h w (.s (.one (.p (.v (.int k' b))))) b' →
      ∃ c, ((do eqGuard op t x y a' b'; binOp op t a' b' : Sem Value)).run P w = .ok c w ∧ VRep κ R h w z c := by
      intro hs hop
      unfold binShift at hs
      by_cases hb : b < 0
      · simp [hb] at hs
      · simp only [hb, decide_false, cond_false] at hs
        rcases hop with rfl | rfl
        · refine ⟨_, hs, fun κ R h w a' b' ha hb' => ?_⟩
          have e1 := val_rep (x := .int k a) rfl ha
          have e2 := val_rep (x := .int k' b) rfl hb'
          subst e1; subst e2
          refine ⟨_, ?_, rep_ints k _⟩
          rw [Sem.run_bind, hg w _ _ rfl rfl]
          simp [binOp, Op.shift, hb]
        · refine ⟨_, hs, fun κ R h w a' b' ha hb' => ?_⟩
          have e1 := val_rep (x := .int k a) rfl ha
          have e2 := val_rep (x := .int k' b) rfl hb'
          subst e1; subst e2
          refine ⟨_, ?_, rep_ints k _⟩
          rw [Sem.run_bind, hg w _ _ rfl rfl]
          simp [binOp, Op.shift, hb]
    split at hK
    · exact hshift hK (.inl rfl)
    · exact hshift hK (.inr rfl)
    · split at hK
      · next hk =>
        subst hk
        unfold binInt at hK
        split at hK
        all_goals first
          | (refine ⟨_, hK, fun κ R h w a' b' ha hb' => ?_⟩
             have e1 := val_rep (x := .int k a) rfl ha
             have e2 := val_rep (x := .int k b) rfl hb'
             subst e1; subst e2
             refine ⟨_, ?_, (by first | exact rep_ints k _ | exact rep_bool _)⟩
             rw [Sem.run_bind, hg w _ _ rfl rfl]
             simp [binOp, Op.intArith, Op.intBits, Op.intCmp]; done)
          | (by_cases hb : b = 0
             · simp [hb] at hK
             · have hb2 : (b == 0) = false := by simpa using hb
               simp only [hb2, cond_false] at hK
               refine ⟨_, hK, fun κ R h w a' b' ha hb' => ?_⟩
               have e1 := val_rep (x := .int k a) rfl ha
               have e2 := val_rep (x := .int k b) rfl hb'
               subst e1; subst e2
               refine ⟨_, ?_, rep_ints k _⟩
               rw [Sem.run_bind, hg w _ _ rfl rfl]
               simp [binOp, Op.intDiv, hb])
          | cases hK
      · cases hK
  · next a b =>
    have hg : ∀ (w : World) (a' b' : Value), a' = .string a → b' = .string b → (eqGuard op t x y a' b').run P w = .ok () w := by
      rintro w _ _ rfl rfl
      exact run_eqGuard_none P w op t x y _ _ (fun _ _ e => by cases e) (fun e => by cases e)
    unfold binStr at hK
    split at hK
    all_goals first
      | (refine ⟨_, hK, fun κ R h w a' b' ha hb' => ?_⟩
         have e1 := val_rep (x := .string a) rfl ha
         have e2 := val_rep (x := .string b) rfl hb'
         subst e1; subst e2
         refine ⟨_, ?_, rep_bool _⟩
         rw [Sem.run_bind, hg w _ _ rfl rfl]
         simp [binOp, Op.stringOp]; done)
      | (by_cases hb : a.size + b.size ≤ 9223372036854775807
         · simp only [hb, decide_true, cond_true] at hK
           refine ⟨_, hK, fun κ R h w a' b' ha hb' => ?_⟩
           have e1 := val_rep (x := .string a) rfl ha
           have e2 := val_rep (x := .string b) rfl hb'
           subst e1; subst e2
           refine ⟨.string (a ++ b), ?_, .p _ _ (.v _ rfl)⟩
           rw [Sem.run_bind, hg w _ _ rfl rfl]
           have hmax : ¬ (((a.size + b.size : Nat) : Int) > IntKind.i64.max) := by
             have : IntKind.i64.max = 9223372036854775807 := by decide
             rw [this]; omega
           simp only [Result.andThen_ok, binOp, Op.stringOp, if_neg hmax, Sem.run_pure]
         · simp [hb] at hK)
      | cases hK
  · next a b =>
    have hg : ∀ (w : World) (a' b' : Value), a' = .bool a → b' = .bool b → (eqGuard op t x y a' b').run P w = .ok () w := by
      rintro w _ _ rfl rfl
      exact run_eqGuard_none P w op t x y _ _ (fun _ _ e => by cases e) (fun e => by cases e)
    split at hK
    · next hu =>
      refine ⟨_, hK, fun κ R h w a' b' ha hb' => ?_⟩
      have e1 := val_rep (x := .bool a) rfl ha
      have e2 := val_rep (x := .bool b) rfl hb'
      subst e1; subst e2
      refine ⟨_, ?_, rep_bool _⟩
      rw [Sem.run_bind, hg w _ _ rfl rfl, Result.andThen_ok]
      exact run_eql_bool w t a b hu
    · next hu =>
      refine ⟨_, hK, fun κ R h w a' b' ha hb' => ?_⟩
      have e1 := val_rep (x := .bool a) rfl ha
      have e2 := val_rep (x := .bool b) rfl hb'
      subst e1; subst e2
      refine ⟨_, ?_, rep_bool _⟩
      rw [Sem.run_bind, hg w _ _ rfl rfl, Result.andThen_ok]
      exact run_neq_bool w t a b hu
    · cases hK
  · next a b =>
    have hagg : ∀ (b' : Bool), (eqFlat P 8 t && aggT P t == some true) = true → eqT P 8 t a b = some b' → ∀ (κ : Kap) (R : Nat → Prop) (h : Nat → Ob) (w : World) (x' y' : Value), VRep κ R h w (.s (.pagg a)) x' → VRep κ R h w (.s (.pagg b)) y' →
        (∀ o, (eqGuard o t x y x' y').run P w = .ok () w) ∧ (Op.equalIn 10000 t x' y').run P w = .ok b' w ∧ ∃ c d, x' = .agg c ∧ y' = .agg d := by
      intro b' hf he κ R h w x' y' hx hy
      obtain ⟨xs, rfl, hxs⟩ := hx
      obtain ⟨ys, rfl, hys⟩ := hy
      simp only [Bool.and_eq_true, beq_iff_eq] at hf
      have hgd : P.eqGuardType P.depth t = false := eqGuard_flat P 8 _ t (by unfold Program.depth Made.depth; omega) hf.1
      exact ⟨fun o => run_eqGuard_agg w o t x y _ _ hgd, eqT_run 8 10000 t a b xs ys b' true (by omega) he hxs hys hf.2, _, _, rfl, rfl⟩
    split at hK
    · split at hK
      · next hf =>
        simp only [Option.bind_eq_some_iff] at hK
        obtain ⟨b', he, hK⟩ := hK
        refine ⟨_, hK, fun κ R h w x' y' hx hy => ?_⟩
        obtain ⟨h1, h2, c, d, rfl, rfl⟩ := hagg b' hf he κ R h w x' y' hx hy
        refine ⟨.bool b', ?_, rep_bool _⟩
        rw [Sem.run_bind, h1, Result.andThen_ok, run_eql_struct, h2]
        rfl
      · cases hK
    · split at hK
      · next hf =>
        simp only [Option.bind_eq_some_iff] at hK
        obtain ⟨b', he, hK⟩ := hK
        refine ⟨_, hK, fun κ R h w x' y' hx hy => ?_⟩
        obtain ⟨h1, h2, c, d, rfl, rfl⟩ := hagg b' hf he κ R h w x' y' hx hy
        refine ⟨.bool (!b'), ?_, rep_bool _⟩
        rw [Sem.run_bind, h1, Result.andThen_ok, run_neq_struct, h2]
        rfl
      · cases hK
    · cases hK
  · next a b _ _ _ =>
    have hg1 : ∀ (w : World) (A : Option Addr) (l c : Nat) (y' : Value), (eqGuard op t x y (.slice A l c) y').run P w = .ok () w :=
      fun w A l c y' => run_eqGuard_none P w op t x y _ _ (fun _ _ e => by cases e) (fun e => by cases e)
    have hg2 : ∀ (w : World) (A : Option Addr) (y' : Value), (eqGuard op t x y (.pointer A) y').run P w = .ok () w :=
      fun w A y' => run_eqGuard_none P w op t x y _ _ (fun _ _ e => by cases e) (fun e => by cases e)
    split at hK
    · next e hu =>
      split at hK
      · next hb =>
        simp only [Option.bind_eq_some_iff] at hK
        obtain ⟨b', he, hK⟩ := hK
        refine ⟨_, hK, fun κ R h w x' y' hx hy => ?_⟩
        obtain ⟨A, l, c, rfl, rfl⟩ := nilSl_rep hx he
        obtain ⟨l', c', rfl⟩ := isSlNil_rep hb hy
        refine ⟨_, ?_, rep_bool _⟩
        rw [Sem.run_bind, hg1, Result.andThen_ok]
        show (do pure (.bool (← Op.equalIn 10000 t (.slice A l c) (.slice none l' c'))) : Sem Value).run P w = _
        rw [Sem.run_bind, equalIn_slice hu 9999]
        rfl
      · cases hK
    · next e hu =>
      split at hK
      · next hb =>
        simp only [Option.bind_eq_some_iff] at hK
        obtain ⟨b', he, hK⟩ := hK
        refine ⟨_, hK, fun κ R h w x' y' hx hy => ?_⟩
        obtain ⟨A, l, c, rfl, rfl⟩ := nilSl_rep hx he
        obtain ⟨l', c', rfl⟩ := isSlNil_rep hb hy
        refine ⟨_, ?_, rep_bool _⟩
        rw [Sem.run_bind, hg1, Result.andThen_ok]
        show (do pure (.bool (!(← Op.equalIn 10000 t (.slice A l c) (.slice none l' c')))) : Sem Value).run P w = _
        rw [Sem.run_bind, equalIn_slice hu 9999]
        rfl
      · cases hK
    · next e hu =>
      split at hK
      · next hb =>
        simp only [Option.bind_eq_some_iff] at hK
        obtain ⟨b', he, hK⟩ := hK
        refine ⟨_, hK, fun κ R h w x' y' hx hy => ?_⟩
        obtain ⟨A, rfl, rfl⟩ := nilPtr_rep hx he
        have := isPtrNil_rep hb hy
        subst this
        refine ⟨_, ?_, rep_bool _⟩
        rw [Sem.run_bind, hg2, Result.andThen_ok]
        show (do pure (.bool (← Op.equalIn 10000 t (.pointer A) (.pointer none))) : Sem Value).run P w = _
        rw [Sem.run_bind, equalIn_ptr hu 9999]
        rfl
      · cases hK
    · next e hu =>
      split at hK
      · next hb =>
        simp only [Option.bind_eq_some_iff] at hK
        obtain ⟨b', he, hK⟩ := hK
        refine ⟨_, hK, fun κ R h w x' y' hx hy => ?_⟩
        obtain ⟨A, rfl, rfl⟩ := nilPtr_rep hx he
        have := isPtrNil_rep hb hy
        subst this
        refine ⟨_, ?_, rep_bool _⟩
        rw [Sem.run_bind, hg2, Result.andThen_ok]
        show (do pure (.bool (!(← Op.equalIn 10000 t (.pointer A) (.pointer none)))) : Sem Value).run P w = _
        rw [Sem.run_bind, equalIn_ptr hu 9999]
        rfl
      · cases hK
    · cases hK
  · cases hK

theorem sim_binOp {op : BinOp} {t t' : TypeId} {x y : Operand} (h : aop E tm H nb ⟨dst, .binOp op t x y t', ty, pos, after, guard⟩ K = some r) : Does E tm H nb ⟨dst, .binOp op t x y t', ty, pos, after, guard⟩ K r := by
  simp only [aop, Option.bind_eq_some_iff] at h
  obtain ⟨v, hv, u, hu, hK⟩ := h
  obtain ⟨z, hz, hrun⟩ := sim_bin (x := x) (y := y) hK
  refine ⟨_, hz, .of_value fun t' h' κ R a w hal hrel => ?_⟩
  obtain ⟨c, h1, h2⟩ := hrun κ R h' w _ _ (operand_rep hrel hv (hal.opnd (by simp [Op.operands]))) (operand_rep hrel hu (hal.opnd (by simp [Op.operands])))
  refine ⟨c, ?_, h2⟩
  simp only [execOp]
  rw [Sem.run_bind, h1]
  rfl

theorem sim_unOp {op : UnOp} {t : TypeId} {x : Operand} (h : aop E tm H nb ⟨dst, .unOp op t x, ty, pos, after, guard⟩ K = some r) : Does E tm H nb ⟨dst, .unOp op t x, ty, pos, after, guard⟩ K r := by
  simp only [aop, Option.bind_eq_some_iff] at h
  obtain ⟨v, hv, hK⟩ := h
  unfold unAny at hK
  split at hK
  · next k n =>
    refine ⟨_, hK, .of_value fun t' h' κ R a w hal hrel => ⟨_, ?_, rep_ints k _⟩⟩
    have e := val_rep (x := .int k n) rfl (operand_rep hrel hv (hal.opnd (by simp [Op.operands])))
    simp [execOp, e, Op.unary, Op.intArith]
  · next b =>
    refine ⟨_, hK, .of_value fun t' h' κ R a w hal hrel => ⟨_, ?_, rep_bool _⟩⟩
    have e := val_rep (x := .bool b) rfl (operand_rep hrel hv (hal.opnd (by simp [Op.operands])))
    simp [execOp, e, Op.unary]
  · cases hK

theorem sim_nilCheck {x : Operand} (h : aop E tm H nb ⟨dst, .nilCheck x, ty, pos, after, guard⟩ K = some r) : Does E tm H nb ⟨dst, .nilCheck x, ty, pos, after, guard⟩ K r := by
  simp only [aop, Option.bind_eq_some_iff] at h
  obtain ⟨v, hv, hK⟩ := h
  split at hK
  · next c =>
    split at hK
    · next hn =>
      refine ⟨_, hK, .of_value fun t' h' κ R a w hal hrel => ?_⟩
      have hr := operand_rep hrel hv (hal.opnd (by simp [Op.operands]))
      refine ⟨a.eval x, ?_, hr⟩
      have hk : (∃ p, a.eval x = .pointer (some p)) ∨ ∃ f cs, a.eval x = .func (.func f) #[] cs := by
        exact notNil_rep hr hn
      rcases hk with ⟨p, hp⟩ | ⟨f, cs, hp⟩ <;> simp [execOp, hp]
    · cases hK
  · cases hK
end ops

end Go.Ev

namespace Go.Ev
open Go
variable {G : Nat → Option (List PC)}

section
variable {κ : Kap} {R : Nat → Prop} {h : Nat → Ob} {w : World}

theorem shift_rep {c c' : C} {n : Nat} {y : Value} (hc : CRep κ R h w c y) (hs : c.shift n = some c') : ∃ a, y = .pointer (some a) ∧ CRep κ R h w c' (.pointer (some (a.add n))) := by
  unfold C.shift at hs
  split at hs
  · cases hs
    cases hc with
    | bpDead _ _ a hd => exact ⟨a, rfl, .bpDead _ _ _ hd⟩
    | bp slot off b o s h1 h2 =>
      refine ⟨_, rfl, ?_⟩
      rw [add_none, Nat.add_assoc]
      exact .bp _ _ b o s h1 h2
  · cases hs
    cases hc with
    | apDead _ _ _ a hd => exact ⟨a, rfl, .apDead _ _ _ _ hd⟩
    | ap slot i off b o s h1 h2 =>
      refine ⟨_, rfl, ?_⟩
      rw [add_none, Nat.add_assoc]
      exact .ap _ _ _ b o s h1 h2
  · cases hs
    cases hc with
    | rp _ off b o f h1 h2 h3 =>
      refine ⟨_, rfl, ?_⟩
      rw [add_none, Nat.add_assoc]
      exact .rp _ _ b o f h1 h2 h3
  · cases hs
    cases hc with
    | p _ _ hp => cases hp; exact ⟨_, rfl, by rw [add_none]; exact .p _ _ (.v _ rfl)⟩
  · cases hs

end

section ops
variable {ρ : Type} {E : Env} {tm : List AV} {H : List Ob} {nb : Nat} {K : Out → Option ρ} {r : ρ}
variable {dst : Option Tmp} {ty : TypeId} {pos : String} {after : Array Edge} {guard : Option (Nat × Bool)}

theorem sim_fieldAddr {t : TypeId} {x : Operand} {f : Nat} (h : aop E tm H nb ⟨dst, .fieldAddr t x f, ty, pos, after, guard⟩ K = some r) : Does E tm H nb ⟨dst, .fieldAddr t x f, ty, pos, after, guard⟩ K r := by
  simp only [aop, Option.bind_eq_some_iff] at h
  obtain ⟨v, hv, hK⟩ := h
  split at hK
  · next c =>
    unfold fieldAt at hK
    split at hK
    · next fs hu =>
      simp only [Option.bind_eq_some_iff] at hK
      obtain ⟨fd, hfd, s, hs, hK⟩ := hK
      split at hK
      · cases hK
      · next hs0 =>
        simp only [Option.bind_eq_some_iff] at hK
        obtain ⟨c', hc', hK⟩ := hK
        refine ⟨_, hK, .of_value fun t' h' κ R a w hal hrel => ?_⟩
        obtain ⟨ad, had, hrep⟩ := shift_rep (operand_rep hrel hv (hal.opnd (by simp [Op.operands]))) hc'
        refine ⟨_, ?_, hrep⟩
        simp only [execOp, Instr.fieldAt, Sem.run_bind, run_underlying' hu, Result.andThen_ok, hfd, had, Instr.sureAddr, Sem.run_pure, fieldPlace, run_sizeOf' hs, if_neg hs0]
    · cases hK
  · cases hK

theorem asIntOf_int (P : Program) (w : World) (k : IntKind) (n : Int) : (asIntOf (.int k n)).run P w = .ok (k, n) w := rfl

theorem sim_indexAddr {t : TypeId} {x i : Operand} (h : aop E tm H nb ⟨dst, .indexAddr t x i, ty, pos, after, guard⟩ K = some r) : Does E tm H nb ⟨dst, .indexAddr t x i, ty, pos, after, guard⟩ K r := by
  simp only [aop, Option.bind_eq_some_iff] at h
  obtain ⟨v, hv, u, hu, iv, hiv, hK⟩ := h
  split at hK
  · next c k n =>
    have hidx : ∀ {out : Out} {t' : Nat → AV} {h' : Nat → Ob} {κ : Kap} {R : Nat → Prop} {a : Act} {w : World}, Alike ⟨dst, .indexAddr t x i, ty, pos, after, guard⟩ tm.length (tget tm) t' (hget H) h' nb out → Rel E.G κ R tm.length t' h' a w →
        CRep κ R h' w c (a.eval x) ∧ a.eval i = .int k n := fun hal hrel =>
      ⟨operand_rep hrel hv (hal.opnd (by simp [Op.operands])), val_rep hiv (operand_rep hrel hu (hal.opnd (by simp [Op.operands])))⟩
    unfold indexAt at hK
    split at hK
    · next e hut =>
      simp only [Option.bind_eq_some_iff] at hK
      obtain ⟨s, hs, hK⟩ := hK
      split at hK
      · next s' nn es =>
        split at hK
        · next hss =>
          subst hss
          by_cases hn : 0 ≤ n
          · simp only [hn, decide_true, cond_true, Option.bind_eq_some_iff] at hK
            obtain ⟨el, hel, hK⟩ := hK
            refine ⟨_, hK, .of_value fun t' h' κ R a w hal hrel => ?_⟩
            obtain ⟨hc, hi⟩ := hidx hal hrel
            generalize hx : a.eval x = z at hc
            cases hc with
            | p _ _ hp =>
              cases hp with
              | sl _ _ _ A len cap f b o h1 h2 h3 h4 h5 h6 h7 =>
                have hne : es ≠ [] := by rintro rfl; simp at hel
                obtain ⟨hA, hRb⟩ := h5 hne
                subst hA; subst h1
                have hlt : n.toNat < es.length := (List.getElem?_eq_some_iff.1 hel).1
                refine ⟨.pointer (some ⟨b, o + n.toNat * s, none⟩), ?_, ?_⟩
                · have hin : 0 ≤ n ∧ n < (es.length : Int) := ⟨hn, by omega⟩
                  simp only [execOp, Instr.indexAt, hi, hx, Sem.run_bind, asIntOf_int, Result.andThen_ok, run_underlying' hut, Sem.run_pure, if_pos hin, run_sizeOf' hs, add_none]
                · obtain ⟨hl, hcell⟩ := h6 n.toNat el hel
                  have := CRep.rp (κ := κ) (R := R) (h := h') (w := w) el 0 b (o + n.toNat * s) (f n.toNat) hRb (fun j c hj => hcell j (by rw [← hl]; exact (List.getElem?_eq_some_iff.1 hj).1)) (fun j c hj => h7 n.toNat el j c hel hj)
                  show CRep κ R h' w (.rp el 0) _
                  simpa using this
          · simp [hn] at hK
        · cases hK
      · next slot off len =>
        split at hK
        · next s' fz es hob =>
          split at hK
          · next hss =>
            obtain ⟨hss, hlen⟩ := hss
            subst hss
            by_cases hn : 0 ≤ n ∧ n < (len : Int)
            · simp only [hn.1, hn.2, decide_true, Bool.and_true, cond_true] at hK
              refine ⟨_, hK, .of_value fun t' h' κ R a w hal hrel => ?_⟩
              obtain ⟨hc, hi⟩ := hidx hal hrel
              have hsl : h' slot = .arr s fz es := by
                have := hal.regs (.obj slot) (by simp)
                simp only [Reg.getF, RegValF.obj.injEq] at this
                rw [this]; simp [hget, hob]
              generalize hx : a.eval x = z at hc
              cases hc with
              | ownDead _ _ _ _ hd => rw [hsl] at hd; cases hd
              | own _ _ _ cap A s0 hst hl hA hcap =>
                rw [hsl] at hst; simp only [Ob.stride, Option.some.injEq] at hst; subst hst
                rcases hcap with h0 | ⟨b, o, hk, hAe, hcells⟩
                · omega
                · subst hAe
                  refine ⟨.pointer (some ⟨b, o + (off + n.toNat) * s + 0, none⟩), ?_, .ap _ _ _ b o s (by rw [hsl]; rfl) hk⟩
                  have hin : 0 ≤ n ∧ n < (len : Int) := hn
                  simp only [execOp, Instr.indexAt, hi, hx, Sem.run_bind, asIntOf_int, Result.andThen_ok, run_underlying' hut, Sem.run_pure, if_pos hin, run_sizeOf' hs, add_none]
                  simp [Nat.add_mul, Nat.add_assoc]
            · exfalso
              have : (decide (0 ≤ n) && decide (n < (len : Int))) = false := by simp; omega
              rw [this] at hK; cases hK
          · cases hK
        · next s' cs hob =>
          split at hK
          · next hss =>
            subst hss
            by_cases hn : 0 ≤ n ∧ n < (len : Int)
            · simp only [hn.1, hn.2, decide_true, Bool.and_true, cond_true] at hK
              refine ⟨_, hK, .of_value fun t' h' κ R a w hal hrel => ?_⟩
              obtain ⟨hc, hi⟩ := hidx hal hrel
              have hsl : h' slot = .box s cs := by
                have := hal.regs (.obj slot) (by simp)
                simp only [Reg.getF, RegValF.obj.injEq] at this
                rw [this]; simp [hget, hob]
              generalize hx : a.eval x = z at hc
              cases hc with
              | ownDead _ _ _ _ hd => rw [hsl] at hd; cases hd
              | own _ _ _ cap A s0 hst hl hA hcap =>
                rw [hsl] at hst; simp only [Ob.stride, Option.some.injEq] at hst; subst hst
                rcases hcap with h0 | ⟨b, o, hk, hAe, hcells⟩
                · omega
                · subst hAe
                  refine ⟨.pointer (some ⟨b, o + (off + n.toNat) * s, none⟩), ?_, .bp _ _ b o s (by rw [hsl]; rfl) hk⟩
                  have hin : 0 ≤ n ∧ n < (len : Int) := hn
                  simp only [execOp, Instr.indexAt, hi, hx, Sem.run_bind, asIntOf_int, Result.andThen_ok, run_underlying' hut, Sem.run_pure, if_pos hin, run_sizeOf' hs, add_none]
                  simp [Nat.add_mul, Nat.add_assoc]
            · exfalso
              have : (decide (0 ≤ n) && decide (n < (len : Int))) = false := by simp; omega
              rw [this] at hK; cases hK
          · cases hK
        · cases hK
      · cases hK
    · next len e hut =>
      simp only [Option.bind_eq_some_iff] at hK
      obtain ⟨s, hs, hK⟩ := hK
      by_cases hn : 0 ≤ n ∧ n < (len : Int)
      · simp only [hn.1, hn.2, decide_true, Bool.and_true, cond_true, Option.bind_eq_some_iff] at hK
        obtain ⟨c', hc', hK⟩ := hK
        refine ⟨_, hK, .of_value fun t' h' κ R a w hal hrel => ?_⟩
        obtain ⟨hc, hi⟩ := hidx hal hrel
        obtain ⟨ad, had, hrep⟩ := shift_rep hc hc'
        refine ⟨_, ?_, hrep⟩
        have hin : 0 ≤ n ∧ n < (len : Int) := hn
        simp only [execOp, Instr.indexAt, hi, had, Sem.run_bind, asIntOf_int, Result.andThen_ok, run_underlying' hut, Instr.sureAddr, Sem.run_pure, if_pos hin, run_sizeOf' hs]
      · exfalso
        have : (decide (0 ≤ n) && decide (n < (len : Int))) = false := by simp; omega
        rw [this] at hK; cases hK
    · cases hK
  · cases hK

end ops
section
variable {κ : Kap} {R : Nat → Prop} {h : Nat → Ob} {w : World}

theorem dec_rep {k : Kind} {c : PC} {x : k.T} {y : Value} (hd : k.dec c = some x) (hc : PRep R w c y) : PRep R w (k.enc x) y := by
  unfold Kind.dec at hd
  split at hd
  · next k k' n =>
    split at hd
    · next hk => subst hk; cases hd; exact hc
    · cases hd
  · cases hd; exact hc
  · cases hd; exact hc
  · next s s' nn es =>
    split at hd
    · next hs =>
      subst hs; cases hd
      cases hc with
      | sl _ _ _ A len cap f b o h1 h2 h3 h4 h5 h6 h7 => exact .sl s false es A len cap f b o h1 h2 (fun e => by cases e) h4 h5 h6 h7
    · cases hd
  · next s =>
    cases hd
    cases hc
    exact .sl s false [] none 0 0 (fun _ _ => undef) 0 0 rfl (Nat.le_refl _) (fun e => by cases e) (fun _ => rfl) (fun e => absurd rfl e) (fun i e he => by simp at he) (fun i e j c he => by simp at he)
  · cases hd; exact hc
  · cases hd

theorem decs_rep : ∀ {ks : List Kind} {cs : List PC} {t : Tup ks} {ys : List Value}, decs ks cs = some t → PReps R w cs ys → PReps R w (encs ks t) ys
  | [], [], _, ys, _, hc => hc
  | [], _ :: _, _, _, h, _ => by cases h
  | _ :: _, [], _, _, h, _ => by cases h
  | k :: ks, c :: cs, t, ys, h, hc => by
    simp only [decs, Option.bind_eq_some_iff] at h
    obtain ⟨x, hx, t', ht', h3⟩ := h
    cases h3
    match ys, hc.1 with
    | y :: ys, hl =>
      have hrest : PReps R w cs ys := ⟨by simpa using hl, fun i c' y' h1 h2 => hc.2 (i + 1) c' y' (by simpa using h1) (by simpa using h2)⟩
      obtain ⟨e1, e2⟩ := decs_rep ht' hrest
      refine ⟨by simp only [encs, List.length_cons]; exact congrArg (· + 1) e1, fun i c' y' h1 h2 => ?_⟩
      cases i with
      | zero =>
        simp only [encs, List.getElem?_cons_zero, Option.some.injEq] at h1 h2
        subst h1; subst h2
        exact dec_rep hx (hc.2 0 c y rfl rfl)
      | succ i => exact e2 i c' y' (by simpa [encs] using h1) (by simpa using h2)

theorem decs_length : ∀ {ks : List Kind} {cs : List PC} {t : Tup ks}, decs ks cs = some t → cs.length = ks.length
  | [], [], _, _ => rfl
  | [], _ :: _, _, h => by cases h
  | _ :: _, [], _, h => by cases h
  | k :: ks, c :: cs, t, h => by
    simp only [decs, Option.bind_eq_some_iff] at h
    obtain ⟨x, hx, t', ht', h3⟩ := h
    cases h3
    simp [decs_length ht']

/-- Values of cells, one after the other. -/
theorem choose_vals {α : Type} {Q : α → Value → Prop} : ∀ (cs : List α) (f : Nat → Option Value), (∀ j c, cs[j]? = some c → ∃ y, f j = some y ∧ Q c y) →
    ∃ ys : List Value, ys.length = cs.length ∧ (∀ (j : Nat) (y : Value), ys[j]? = some y → f j = some y) ∧ ∀ (j : Nat) (c : α) (y : Value), cs[j]? = some c → ys[j]? = some y → Q c y
  | [], f, _ => ⟨[], rfl, fun j y h => by simp at h, fun j c y h => by simp at h⟩
  | c :: cs, f, h => by
    obtain ⟨y, hy, hq⟩ := h 0 c rfl
    obtain ⟨ys, h1, h2, h3⟩ := choose_vals cs (fun j => f (j + 1)) (fun j c' hc => h (j + 1) c' (by simpa using hc))
    refine ⟨y :: ys, by simp [h1], fun j z hz => ?_, fun j c' z hc hz => ?_⟩
    · cases j with
      | zero => simp only [List.getElem?_cons_zero, Option.some.injEq] at hz; subst hz; exact hy
      | succ j => exact h2 j z (by simpa using hz)
    · cases j with
      | zero => simp only [List.getElem?_cons_zero, Option.some.injEq] at hz hc; subst hz; subst hc; exact hq
      | succ j => exact h3 j c' z (by simpa using hc) (by simpa using hz)

theorem run_loadVar {P : Program} {t : TypeId} {n : Nat} {agg : Bool} (hn : szOf P t = some n) (ha : aggT P t = some agg) {b o : Nat} {ys : List Value} (hl : ys.length = n) (h1 : agg = false → n = 1)
    (hc : ∀ (j : Nat) (y : Value), ys[j]? = some y → w.cell? ⟨b, o + j, none⟩ = some y) : (loadVar t ⟨b, o, none⟩).run P w = .ok (valOf agg ys) w := by
  unfold loadVar
  rw [Sem.run_bind, run_isAgg' ha, Result.andThen_ok]
  cases agg with
  | true =>
    simp only [if_true, Sem.run_bind, run_sizeOf' hn, Result.andThen_ok]
    rw [← hl, run_loadCells P w b o ys hc]
    rfl
  | false =>
    have := h1 rfl
    subst this
    match ys, hl with
    | [y], _ =>
      have := hc 0 y rfl
      simp only [Nat.add_zero] at this
      simp [this, valOf]

theorem mkP_rep {agg : Bool} {cs : List PC} {v : SV} (hv : mkP agg cs = some v) {ys : List Value} (hr : PReps R w cs ys) : SRep κ R h w v (valOf agg ys) ∧ (agg = false → cs.length = 1) := by
  unfold mkP at hv
  split at hv
  · cases hv; exact ⟨⟨ys, rfl, hr⟩, fun e => by cases e⟩
  · cases hv
    obtain ⟨y, rfl, hy⟩ := hr.one
    exact ⟨.p _ _ hy, fun _ => rfl⟩
  · cases hv

theorem takeP_rep {ρ : Type} {E : Env} {t : TypeId} {n : Nat} {agg : Bool} {e : List PC} {off : Nat} {K : SV → Option ρ} {r : ρ} (h : takeP E t n agg e off K = some r) (hn : szOf E.P t = some n) (ha : aggT E.P t = some agg) :
    ∃ v, K v = some r ∧ ∀ (κ : Kap) (R : Nat → Prop) (h : Nat → Ob) (w : World) (b o : Nat), (∀ (j : Nat) (c : PC), e[j]? = some c → ∃ y, w.cell? ⟨b, o + j, none⟩ = some y ∧ PRep R w c y) →
      ∃ y, (loadVar t ⟨b, o + off, none⟩).run E.P w = .ok y w ∧ SRep κ R h w v y := by
  unfold takeP at h
  simp only [Option.bind_eq_some_iff] at h
  obtain ⟨ks, hks, h⟩ := h
  split at h
  · next hlen =>
    simp only [Option.bind_eq_some_iff] at h
    obtain ⟨tup, htup, v, hv, hK⟩ := h
    refine ⟨v, hK, fun κ R h w b o hc => ?_⟩
    have hl := decs_length htup
    obtain ⟨ys, hys1, hys2, hys3⟩ := choose_vals (Q := PRep R w) ((e.drop off).take n) (fun j => w.cell? ⟨b, o + off + j, none⟩) (fun j c hj => by
      rw [List.getElem?_take] at hj
      split at hj
      · rw [List.getElem?_drop] at hj
        obtain ⟨y, hy, hr⟩ := hc _ c hj
        exact ⟨y, by rw [Nat.add_assoc]; exact hy, hr⟩
      · cases hj)
    have hreps : PReps R w (encs ks tup) ys := decs_rep htup ⟨hys1.symm, hys3⟩
    obtain ⟨hs, h1⟩ := mkP_rep (κ := κ) (h := h) hv hreps
    have hyl : ys.length = n := by rw [hys1, hl, hlen]
    refine ⟨_, run_loadVar hn ha hyl (fun e => by rw [← hyl, ← hreps.1]; exact h1 e) hys2, hs⟩
  · cases h

theorem pcs_rep : ∀ {cs : List C} {l : List PC}, pcs cs = some l → cs = l.map .p
  | [], l, h => by simp [pcs] at h; subst h; rfl
  | c :: cs, l, h => by
    simp only [pcs, List.mapM_cons, bind, Option.bind_eq_some_iff, pure, Option.some.injEq] at h
    obtain ⟨x, hx, l', hl', rfl⟩ := h
    have := pcs_rep (cs := cs) (l := l') hl'
    rw [this]
    cases c <;> simp [C.pc] at hx
    subst hx; rfl

theorem creps_map {l : List PC} {ys : List Value} : CReps κ R h w (l.map .p) ys ↔ PReps R w l ys := by
  refine ⟨fun hc => ⟨by simpa using hc.1, fun i c y h1 h2 => ?_⟩, fun hp => ⟨by simpa using hp.1, fun i c y h1 h2 => ?_⟩⟩
  · have := hc.2 i (.p c) y (by simp [h1]) h2
    cases this with | p _ _ hp => exact hp
  · rw [List.getElem?_map] at h1
    cases hl : l[i]? with
    | none => rw [hl] at h1; cases h1
    | some x => rw [hl] at h1; cases h1; exact .p _ _ (hp.2 i x y hl h2)

theorem mkC_rep {agg : Bool} {cs : List C} {v : SV} (hv : mkC agg cs = some v) {ys : List Value} (hr : CReps κ R h w cs ys) : SRep κ R h w v (valOf agg ys) ∧ (agg = false → cs.length = 1) := by
  unfold mkC at hv
  split at hv
  · cases hv
    refine ⟨?_, fun e => by cases e⟩
    split
    · next l hl =>
      have := pcs_rep hl
      subst this
      exact ⟨ys, rfl, creps_map.1 hr⟩
    · exact ⟨ys, rfl, hr⟩
  · next c =>
    cases hv
    match ys, hr.1 with
    | [y], _ => exact ⟨hr.2 0 c y rfl rfl, fun _ => rfl⟩
  · cases hv

theorem boxGetF_get {H : List Ob} {slot off n : Nat} : boxGetF (hget H) slot off n = boxGet H slot off n := by
  unfold boxGetF boxGet hget
  cases hs : H[slot]? with
  | none => rfl
  | some ob => cases ob <;> rfl

end

section ops
variable {ρ : Type} {E : Env} {tm : List AV} {H : List Ob} {nb : Nat} {K : Out → Option ρ} {r : ρ}
variable {dst : Option Tmp} {ty : TypeId} {pos : String} {after : Array Edge} {guard : Option (Nat × Bool)}

/-- What a load comes to. -/
theorem loadAt_rep {t : TypeId} {c : C} {K : SV → List Reg → Option ρ} (h : loadAt E H t c K = some r) :
    ∃ v rd, K v rd = some r ∧ ∀ (h' : Nat → Ob) (κ : Kap) (R : Nat → Prop) (w : World) (x : Value), (∀ q ∈ rd, q.getF h' = q.getF (hget H)) → HRep E.G κ R h' w → CRep κ R h' w c x →
      ∃ y, (Instr.loadAt t x).run E.P w = .ok y w ∧ SRep κ R h' w v y := by
  unfold loadAt at h
  simp only [Option.bind_eq_some_iff] at h
  obtain ⟨n, hn, agg, ha, h⟩ := h
  split at h
  · next slot off =>
    simp only [Option.bind_eq_some_iff] at h
    obtain ⟨cs, hcs, v, hv, hK⟩ := h
    refine ⟨v, _, hK, fun h' κ R w x hrd hH hc => ?_⟩
    have hbox : boxGetF h' slot off n = some cs := by
      have := hrd (.box slot off n) (by simp)
      simp only [Reg.getF, RegValF.box.injEq] at this
      rw [this, boxGetF_get, hcs]
    unfold boxGetF at hbox
    split at hbox
    · next s cs0 hob =>
      split at hbox
      · next hlen =>
        cases hbox
        cases hc with
        | bpDead _ _ _ hd => rw [hob] at hd; cases hd
        | bp _ _ b o s hst hk =>
          have hobr := hH.obs slot
          rw [hob] at hobr
          obtain ⟨b', o', c, t', fr, h1, h2, h3, h4, h5, h6⟩ := hobr
          rw [hk] at h1; cases h1
          obtain ⟨ys, hys1, hys2, hys3⟩ := choose_vals (Q := CRep κ R h' w) ((cs0.drop off).take n) (fun j => w.cell? ⟨b, o + off + j, none⟩) (fun j x hj => by
            rw [List.getElem?_take] at hj
            split at hj
            · rw [List.getElem?_drop] at hj
              obtain ⟨y, hy, hr⟩ := h6 _ x hj
              exact ⟨y, by rw [cell_of_cells h2, ← hy]; congr 1; omega, hr⟩
            · cases hj)
          have hyl : ys.length = n := by rw [hys1]; simp; omega
          obtain ⟨hs, h1⟩ := mkC_rep hv (ys := ys) ⟨hys1.symm, hys3⟩
          refine ⟨_, ?_, hs⟩
          simp only [Instr.loadAt, Instr.sureAddr, Sem.run_bind, Sem.run_pure, Result.andThen_ok]
          exact run_loadVar hn ha hyl (fun e => by rw [← hyl, hys1]; exact h1 e) hys2
      · cases hbox
    · cases hbox
  · next slot i off =>
    split at h
    · next s fz es hob =>
      simp only [Option.bind_eq_some_iff] at h
      obtain ⟨e, he, h⟩ := h
      obtain ⟨v, hK, hv⟩ := takeP_rep h hn ha
      refine ⟨v, _, hK, fun h' κ R w x hrd hH hc => ?_⟩
      have hsl : h' slot = .arr s fz es := by
        have := hrd (.obj slot) (by simp)
        simp only [Reg.getF, RegValF.obj.injEq] at this
        rw [this]; simp [hget, hob]
      cases hc with
      | apDead _ _ _ _ hd => rw [hsl] at hd; cases hd
      | ap _ _ _ b o s0 hst hk =>
        rw [hsl] at hst; simp only [Ob.stride, Option.some.injEq] at hst; subst hst
        have hobr := hH.obs slot
        rw [hsl] at hobr
        rcases hobr with ⟨h1, h2⟩ | ⟨b', o', c, t', fr, h1, h2, h3, h4, h5, h6, h7⟩
        · rw [hk] at h1; cases h1
        · rw [hk] at h1; cases h1
          obtain ⟨y, hy, hs⟩ := hv κ R h' w b (o + i * s) (fun j c' hj => by
            obtain ⟨y, hy, hr⟩ := (h7 i e he).2 j c' hj
            exact ⟨y, by rw [cell_of_cells h2]; exact hy, hr⟩)
          exact ⟨y, by simp only [Instr.loadAt, Instr.sureAddr, Sem.run_bind, Sem.run_pure, Result.andThen_ok]; exact hy, hs⟩
    · cases h
  · next e off =>
    obtain ⟨v, hK, hv⟩ := takeP_rep h hn ha
    refine ⟨v, _, hK, fun h' κ R w x hrd hH hc => ?_⟩
    cases hc with
    | rp _ _ b o f h1 h2 h3 =>
      obtain ⟨y, hy, hs⟩ := hv κ R h' w b o (fun j c hj => ⟨f j, h2 j c hj, h3 j c hj⟩)
      exact ⟨y, by simp only [Instr.loadAt, Instr.sureAddr, Sem.run_bind, Sem.run_pure, Result.andThen_ok]; exact hy, hs⟩
  · next g off =>
    simp only [Option.bind_eq_some_iff] at h
    obtain ⟨e, he, h⟩ := h
    obtain ⟨v, hK, hv⟩ := takeP_rep h hn ha
    refine ⟨v, _, hK, fun h' κ R w x hrd hH hc => ?_⟩
    cases hc with
    | p _ _ hp =>
      cases hp
      obtain ⟨hRg, hg⟩ := hH.glob g e he
      obtain ⟨y, hy, hs⟩ := hv κ R h' w g 0 (fun j c hj => by simpa using hg j c hj)
      rw [Nat.zero_add] at hy
      exact ⟨y, by simp only [Instr.loadAt, Instr.sureAddr, Sem.run_bind, Sem.run_pure, Result.andThen_ok]; exact hy, hs⟩
  · cases h

theorem sim_load {t : TypeId} {x : Operand} (h : aop E tm H nb ⟨dst, .load t x, ty, pos, after, guard⟩ K = some r) : Does E tm H nb ⟨dst, .load t x, ty, pos, after, guard⟩ K r := by
  simp only [aop, Option.bind_eq_some_iff] at h
  obtain ⟨v, hv, hK⟩ := h
  split at hK
  · next c =>
    obtain ⟨sv, rd, hK, hld⟩ := loadAt_rep hK
    refine ⟨_, hK, .of_value fun t' h' κ R a w hal hrel => ?_⟩
    obtain ⟨y, hy, hs⟩ := hld h' κ R w _ hal.regs hrel.heap (operand_rep hrel hv (hal.opnd (by simp [Op.operands])))
    exact ⟨y, by simp only [execOp, Sem.run_bind, hy, Result.andThen_ok, Sem.run_pure], hs⟩
  · cases hK
end ops
end Go.Ev

namespace Go.Ev
open Go
variable {G : Nat → Option (List PC)}

section
variable {κ : Kap} {R : Nat → Prop} {h : Nat → Ob} {w : World}

theorem CReps.drop {xs : List C} {vs : List Value} (hr : CReps κ R h w xs vs) (off n : Nat) : CReps κ R h w ((xs.drop off).take n) ((vs.drop off).take n) := by
  refine ⟨by simp [hr.1], fun i c y hc hy => ?_⟩
  rw [List.getElem?_take] at hc hy
  split at hc
  · next hi => rw [if_pos hi] at hy; rw [List.getElem?_drop] at hc hy; exact hr.2 _ c y hc hy
  · cases hc

theorem partOf_rep {E : Env} {t : TypeId} {x : AV} {off : Nat} {v : SV} {y : Value} (hp : partOf E t x off = some v) (hx : VRep κ R h w x y) :
    ∃ cs : List Value, y = .agg cs.toArray ∧ ∃ z, (part t cs.toArray off).run E.P w = .ok z w ∧ SRep κ R h w v z := by
  unfold partOf at hp
  simp only [Option.bind_eq_some_iff] at hp
  obtain ⟨n, hn, agg, ha, hp⟩ := hp
  split at hp
  · next cs =>
    split at hp
    · next hlen =>
      obtain ⟨ys, rfl, hys⟩ := hx
      obtain ⟨h1, h2⟩ := mkP_rep (κ := κ) (h := h) hp (hys.drop off n)
      refine ⟨ys, rfl, _, part_val ha hn (by rw [← hys.1]; exact hlen) (fun e => by have := h2 e; simp at this; omega), h1⟩
    · cases hp
  · next cs =>
    split at hp
    · next hlen =>
      obtain ⟨ys, rfl, hys⟩ := hx
      obtain ⟨h1, h2⟩ := mkC_rep hp (CReps.drop hys off n)
      refine ⟨ys, rfl, _, part_val ha hn (by rw [← hys.1]; exact hlen) (fun e => by have := h2 e; simp at this; omega), h1⟩
    · cases hp
  · cases hp
end

section ops
variable {ρ : Type} {E : Env} {tm : List AV} {H : List Ob} {nb : Nat} {K : Out → Option ρ} {r : ρ}
variable {dst : Option Tmp} {ty : TypeId} {pos : String} {after : Array Edge} {guard : Option (Nat × Bool)}

theorem sim_field {t : TypeId} {x : Operand} {f : Nat} (h : aop E tm H nb ⟨dst, .field t x f, ty, pos, after, guard⟩ K = some r) : Does E tm H nb ⟨dst, .field t x f, ty, pos, after, guard⟩ K r := by
  simp only [aop, Option.bind_eq_some_iff] at h
  obtain ⟨v, hv, hK⟩ := h
  split at hK
  · next fs hu =>
    simp only [Option.bind_eq_some_iff] at hK
    obtain ⟨fd, hfd, z, hz, hK⟩ := hK
    refine ⟨_, hK, .of_value fun t' h' κ R a w hal hrel => ?_⟩
    obtain ⟨cs, hcs, y, hy, hs⟩ := partOf_rep hz (operand_rep hrel hv (hal.opnd (by simp [Op.operands])))
    refine ⟨y, ?_, hs⟩
    simp only [execOp, Instr.field, Sem.run_bind, run_underlying' hu, Result.andThen_ok, hfd, hcs, asAgg, Sem.run_pure, hy]
  · cases hK

theorem byte_get {s : ByteArray} {i : Nat} {b : UInt8} (h : s.data.toList[i]? = some b) : s[i]? = some b := by
  obtain ⟨d⟩ := s
  obtain ⟨hlt, hb⟩ := List.getElem?_eq_some_iff.1 h
  have hlt' : i < (⟨d⟩ : ByteArray).size := by simpa [ByteArray.size] using hlt
  rw [getElem?_pos _ i hlt']
  simp only [Option.some.injEq]
  rw [← hb]
  rfl

theorem sim_index {t : TypeId} {x i : Operand} (h : aop E tm H nb ⟨dst, .index t x i, ty, pos, after, guard⟩ K = some r) : Does E tm H nb ⟨dst, .index t x i, ty, pos, after, guard⟩ K r := by
  simp only [aop, Option.bind_eq_some_iff] at h
  obtain ⟨v, hv, u, hu, iv, hiv, hK⟩ := h
  split at hK
  · next s k n hut =>
    by_cases hn : 0 ≤ n
    · simp only [hn, decide_true, cond_true, Option.bind_eq_some_iff] at hK
      obtain ⟨b, hb, hK⟩ := hK
      refine ⟨_, hK, .of_value fun t' h' κ R a w hal hrel => ?_⟩
      have h1 := val_rep (x := .string s) rfl (operand_rep hrel hv (hal.opnd (by simp [Op.operands])))
      have h2 := val_rep hiv (operand_rep hrel hu (hal.opnd (by simp [Op.operands])))
      refine ⟨.int .u8 b.toNat, ?_, rep_ints .u8 _⟩
      simp only [execOp, Instr.index, h1, h2, Sem.run_bind, asIntOf_int, Result.andThen_ok, run_underlying' hut, if_pos hn, byte_get hb, Sem.run_pure]
    · simp [hn] at hK
  · next v k n len e hut =>
    simp only [Option.bind_eq_some_iff] at hK
    obtain ⟨s, hs, hK⟩ := hK
    by_cases hn : 0 ≤ n ∧ n < (len : Int)
    · simp only [hn.1, hn.2, decide_true, Bool.and_true, cond_true, Option.bind_eq_some_iff] at hK
      obtain ⟨z, hz, hK⟩ := hK
      refine ⟨_, hK, .of_value fun t' h' κ R a w hal hrel => ?_⟩
      obtain ⟨cs, hcs, y, hy, hsr⟩ := partOf_rep hz (operand_rep hrel hv (hal.opnd (by simp [Op.operands])))
      have h2 := val_rep hiv (operand_rep hrel hu (hal.opnd (by simp [Op.operands])))
      refine ⟨y, ?_, hsr⟩
      simp only [execOp, Instr.index, hcs, h2, Sem.run_bind, asIntOf_int, Result.andThen_ok, run_underlying' hut, if_pos hn, run_sizeOf' hs, hy, Sem.run_pure]
    · exfalso
      have : (decide (0 ≤ n) && decide (n < (len : Int))) = false := by simp; omega
      rw [this] at hK; cases hK
  · cases hK

/-- An optional bound. -/
theorem optI_val {κ : Kap} {R : Nat → Prop} {t' : Nat → AV} {h' : Nat → Ob} {a : Act} {w : World} (hrel : Rel E.G κ R tm.length t' h' a w) {x : Option Operand} {n : Option Int} (hx : optI tm x = some n)
    (hal : ∀ y, x = some y → ∀ t, y = .tmp t → t' t = tget tm t) : (x = none ∧ n = none) ∨ ∃ y k m, x = some y ∧ n = some m ∧ a.eval y = .int k m := by
  cases x with
  | none => simp only [optI, Option.some.injEq] at hx; exact .inl ⟨rfl, hx.symm⟩
  | some y =>
    simp only [optI, Option.bind_eq_some_iff] at hx
    obtain ⟨v, hv, u, hu, hx⟩ := hx
    cases u with
    | int k m => simp only [Option.some.injEq] at hx; exact .inr ⟨y, k, m, rfl, hx.symm, val_rep hu (operand_rep hrel hv (hal y rfl))⟩
    | _ => cases hx

theorem run_bounds {P : Program} {w : World} {isSlice : Bool} {len cap : Nat} {lo hi : Option Value} {l h : Option Int}
    (hlo : (lo = none ∧ l = none) ∨ ∃ k m, lo = some (.int k m) ∧ l = some m) (hhi : (hi = none ∧ h = none) ∨ ∃ k m, hi = some (.int k m) ∧ h = some m)
    (h1 : 0 ≤ l.getD 0) (h2 : l.getD 0 ≤ h.getD len) (h3 : h.getD len ≤ cap ∨ h = none) : (Instr.sliceBounds isSlice len cap lo hi none).run P w = .ok ((l.getD 0).toNat, (h.getD len).toNat, cap) w := by
  unfold Instr.sliceBounds
  rcases hhi with ⟨rfl, rfl⟩ | ⟨kh, mh, rfl, rfl⟩
  · rcases hlo with ⟨rfl, rfl⟩ | ⟨kl, ml, rfl, rfl⟩
    · simp
    · simp only [Option.getD_some, Option.getD_none] at h1 h2
      simp [Instr.sliceBound, asIntOf_int, h1, h2]
  · simp only [Option.getD_some, reduceCtorEq, or_false] at h3 h2
    have hh0 : 0 ≤ mh := by omega
    rcases hlo with ⟨rfl, rfl⟩ | ⟨kl, ml, rfl, rfl⟩
    · simp [Instr.sliceBound, asIntOf_int, hh0, h3]
    · simp only [Option.getD_some] at h1 h2
      have : ml ≤ (mh.toNat : Int) := by omega
      simp [Instr.sliceBound, asIntOf_int, hh0, h3, h1]
      intro hx; omega

theorem sim_slice {t : TypeId} {x : Operand} {lo hi mx : Option Operand} (h : aop E tm H nb ⟨dst, .slice t x lo hi mx, ty, pos, after, guard⟩ K = some r) : Does E tm H nb ⟨dst, .slice t x lo hi mx, ty, pos, after, guard⟩ K r := by
  simp only [aop, Option.bind_eq_some_iff] at h
  obtain ⟨v, hv, l, hl, hh, hhi, m, hm, hK⟩ := h
  have hb : ∀ {out : Out} {t' : Nat → AV} {h' : Nat → Ob} {κ : Kap} {R : Nat → Prop} {a : Act} {w : World}, Alike ⟨dst, .slice t x lo hi mx, ty, pos, after, guard⟩ tm.length (tget tm) t' (hget H) h' nb out → Rel E.G κ R tm.length t' h' a w →
      VRep κ R h' w v (a.eval x) ∧ ((lo.map a.eval = none ∧ l = none) ∨ ∃ k m, lo.map a.eval = some (.int k m) ∧ l = some m) ∧ ((hi.map a.eval = none ∧ hh = none) ∨ ∃ k m, hi.map a.eval = some (.int k m) ∧ hh = some m) ∧ (m = none → mx = none) := by
    intro out t' h' κ R a w hal hrel
    refine ⟨operand_rep hrel hv (hal.opnd (by simp [Op.operands])), ?_, ?_, ?_⟩
    · rcases optI_val hrel hl (fun y hy => hal.opnd (by simp [Op.operands, hy])) with ⟨h1, h2⟩ | ⟨y, k, n, h1, h2, h3⟩
      · exact .inl ⟨by rw [h1]; rfl, h2⟩
      · exact .inr ⟨k, n, by rw [h1]; simp [h3], h2⟩
    · rcases optI_val hrel hhi (fun y hy => hal.opnd (by simp [Op.operands, hy])) with ⟨h1, h2⟩ | ⟨y, k, n, h1, h2, h3⟩
      · exact .inl ⟨by rw [h1]; rfl, h2⟩
      · exact .inr ⟨k, n, by rw [h1]; simp [h3], h2⟩
    · rintro rfl
      rcases optI_val hrel hm (fun y hy => hal.opnd (by simp [Op.operands, hy])) with ⟨h1, h2⟩ | ⟨y, k, n, h1, h2, h3⟩
      · exact h1
      · cases h2
  unfold sliceV at hK
  split at hK
  · next b =>
    split at hK
    · next hu =>
      simp only at hK
      by_cases hc : (decide (0 ≤ hh.getD (b.size : Int)) && decide (hh.getD (b.size : Int) ≤ b.size) && decide (0 ≤ l.getD 0) && decide (l.getD 0 ≤ hh.getD (b.size : Int))) = true
      · rw [hc, cond_true] at hK
        simp only [Bool.and_eq_true, decide_eq_true_eq] at hc
        refine ⟨_, hK, .of_value fun t' h' κ R a w hal hrel => ?_⟩
        obtain ⟨h1, h2, h3, h4⟩ := hb hal hrel
        have h1' := val_rep (x := .string b) rfl h1
        have := h4 rfl
        subst this
        refine ⟨_, ?_, .p _ _ (.v _ rfl)⟩
        simp only [execOp, Instr.sliceAt, Instr.slice, h1', Sem.run_bind, run_underlying' hu, Result.andThen_ok, Option.map_none, Option.isSome_none, Bool.false_eq_true, if_false,
          run_bounds (P := E.P) (w := w) (isSlice := false) (len := b.size) (cap := b.size) h2 h3 hc.1.2 hc.2 (.inl hc.1.1.2), Sem.run_pure]
      · simp only [Bool.not_eq_true] at hc
        rw [hc] at hK; cases hK
    · cases hK
  · next c _ =>
    split at hK
    · next e hu =>
      simp only [Option.bind_eq_some_iff] at hK
      obtain ⟨s, hs, ln, hln, hK⟩ := hK
      by_cases hc : (decide (0 ≤ l.getD 0) && decide (l.getD 0 ≤ hh.getD (ln.1 : Int)) && decide (hh.getD (ln.1 : Int) ≤ ln.1)) = true
      · rw [hc, cond_true] at hK
        simp only [Bool.and_eq_true, decide_eq_true_eq] at hc
        obtain ⟨⟨hc1, hc2⟩, hc3⟩ := hc
        -- the run, of a slice of this length
        have hrun : ∀ (a : Act) (w : World) (A : Option Addr) (cap : Nat), a.eval x = .slice A ln.1 cap → ln.1 ≤ cap → mx = none →
            ((lo.map a.eval = none ∧ l = none) ∨ ∃ k m, lo.map a.eval = some (.int k m) ∧ l = some m) → ((hi.map a.eval = none ∧ hh = none) ∨ ∃ k m, hi.map a.eval = some (.int k m) ∧ hh = some m) →
            (execOp a.eval ⟨dst, .slice t x lo hi mx, ty, pos, after, guard⟩).run E.P w = .ok (.value (.slice (if cap = (l.getD 0).toNat then A else A.map (·.add ((l.getD 0).toNat * s))) ((hh.getD (ln.1 : Int)).toNat - (l.getD 0).toNat) (cap - (l.getD 0).toNat))) w := by
          rintro a w A cap hx hcap rfl h2 h3
          simp only [execOp, Instr.sliceAt, Instr.slice, hx, Sem.run_bind, run_underlying' hu, Result.andThen_ok, Option.map_none,
            run_bounds (P := E.P) (w := w) (isSlice := true) (len := ln.1) (cap := cap) h2 h3 hc1 hc2 (.inl (by omega)), run_sizeOf' hs, Sem.run_pure]
        split at hK
        · -- nil
          simp only [lenOf, Option.some.injEq] at hln
          subst hln
          refine ⟨_, hK, .of_value fun t' h' κ R a w hal hrel => ?_⟩
          obtain ⟨h1, h2, h3, h4⟩ := hb hal hrel
          have h1' := val_rep (x := .slice none 0 0) rfl h1
          refine ⟨.slice none 0 0, ?_, .p _ _ (.v _ rfl)⟩
          rw [hrun a w none 0 h1' (Nat.le_refl _) (h4 rfl) h2 h3]
          have e1 : (hh.getD ((0 : Nat) : Int)).toNat - (l.getD 0).toNat = 0 := by
            have q : hh.getD ((0 : Nat) : Int) ≤ ((0 : Nat) : Int) := hc3
            omega
          simp only [e1, Option.map_none, ite_self, Nat.zero_sub]
        · next s' nn es _ =>
          split at hK
          · next hss =>
            subst hss
            simp only [lenOf, Option.some.injEq] at hln
            subst hln
            refine ⟨_, hK, .of_value fun t' h' κ R a w hal hrel => ?_⟩
            obtain ⟨h1, h2, h3, h4⟩ := hb hal hrel
            generalize hx : a.eval x = z at h1
            cases h1 with
            | p _ _ hp =>
              cases hp with
              | sl _ _ _ A len cap f b o g1 g2 g3 g4 g5 g6 g7 =>
                subst g1
                refine ⟨_, hrun a w A cap hx g2 (h4 rfl) h2 h3, ?_⟩
                simp only at hc2 hc3
                generalize hl0 : l.getD 0 = l0 at *
                generalize hh0 : hh.getD (es.length : Int) = h0 at *
                refine .p _ _ (.sl s nn _ _ _ _ (fun i j => f (l0.toNat + i) j) b (o + l0.toNat * s) (by simp; omega) (by omega) (fun hnn => ?_) (fun hA => ?_) (fun hne => ?_) (fun i e he => ?_) (fun i e j c he hj => ?_))
                · have := g3 hnn
                  split
                  · exact this
                  · cases A with
                    | none => exact absurd rfl this
                    | some _ => simp
                · have : A = none := by
                    split at hA
                    · exact hA
                    · simpa using hA
                  have := g4 this
                  omega
                · have hlt : l0.toNat < h0.toNat := by
                    have : ((es.drop l0.toNat).take (h0.toNat - l0.toNat)).length ≠ 0 := fun e => hne (List.eq_nil_of_length_eq_zero e)
                    simp at this; omega
                  have hes : es ≠ [] := by rintro rfl; simp at hc3; omega
                  obtain ⟨hA, hRb⟩ := g5 hes
                  rw [if_neg (by omega), hA]
                  exact ⟨by simp [add_none], hRb⟩
                · rw [List.getElem?_take] at he
                  split at he
                  · rw [List.getElem?_drop] at he
                    obtain ⟨q1, q2⟩ := g6 _ e he
                    exact ⟨q1, fun j hj => by rw [← q2 j hj]; congr 2; rw [Nat.add_mul]; omega⟩
                  · cases he
                · rw [List.getElem?_take] at he
                  split at he
                  · rw [List.getElem?_drop] at he
                    exact g7 _ e j c he hj
                  · cases he
          · cases hK
        · next slot off len _ =>
         split at hK
         · next hstr =>
          refine ⟨_, hK, .of_value fun t' h' κ R a w hal hrel => ?_⟩
          obtain ⟨h1, h2, h3, h4⟩ := hb hal hrel
          have hst : ∃ ob, h' slot = ob ∧ ob ≠ .dead ∧ ln.1 = len ∧ ob.stride = some s := by
            simp only [lenOf] at hln
            split at hln
            · next hob =>
              cases hln
              have := hal.regs (.obj slot) (by simp)
              simp only [Reg.getF, RegValF.obj.injEq] at this
              refine ⟨_, rfl, ?_, rfl, by rw [this]; exact hstr⟩
              rw [this]; simp [hget, hob]
            · next hob =>
              cases hln
              have := hal.regs (.obj slot) (by simp)
              simp only [Reg.getF, RegValF.obj.injEq] at this
              refine ⟨_, rfl, ?_, rfl, by rw [this]; exact hstr⟩
              rw [this]; simp [hget, hob]
            · cases hln
          obtain ⟨ob, hob, hd, hlen, hos⟩ := hst
          generalize hx : a.eval x = z at h1
          cases h1 with
          | ownDead _ _ _ _ hd' => rw [hob] at hd'; exact absurd hd' hd
          | own _ _ _ cap A s0 g1 g2 g3 g4 =>
            rw [← hlen] at hx g2
            refine ⟨_, hrun a w A cap hx g2 (h4 rfl) h2 h3, ?_⟩
            generalize hl0 : l.getD 0 = l0 at *
            generalize hh0 : hh.getD (ln.1 : Int) = h0 at *
            refine .own _ _ _ _ _ s0 g1 (by omega) (fun hA => ?_) ?_
            · have : A = none := by
                split at hA
                · exact hA
                · simpa using hA
              have := g3 this
              omega
            · by_cases hcl : cap = l0.toNat
              · exact .inl (by omega)
              · rcases g4 with g4 | ⟨b, o, k1, k2, k3⟩
                · omega
                · refine .inr ⟨b, o, k1, ?_, ?_⟩
                  · rw [if_neg hcl, k2]
                    have : s0 = s := by
                      rw [hob, hos] at g1; cases g1; rfl
                    subst this
                    simp [add_none, Nat.add_mul, Nat.add_assoc]
                  · have : off + l0.toNat + (cap - l0.toNat) = off + cap := by omega
                    rw [this]; exact k3
         · cases hK
        · cases hK
      · simp only [Bool.not_eq_true] at hc
        rw [hc] at hK; cases hK
    · cases hK
  · cases hK

end ops
end Go.Ev

namespace Go.Ev
open Go
variable {G : Nat → Option (List PC)}

section
variable {κ : Kap} {R : Nat → Prop} {h : Nat → Ob} {w : World}

theorem PRep.oneCell {c : PC} {y : Value} (hc : PRep R w c y) : y.oneCell' = true := by
  cases hc with
  | v _ h => exact h
  | sl => rfl
theorem CRep.oneCell {c : C} {y : Value} (hc : CRep κ R h w c y) : y.oneCell' = true := by
  cases hc with
  | p _ _ h => exact h.oneCell
  | ownDead _ _ _ _ _ h => exact h
  | _ => rfl
theorem cells_one {y : Value} (h : y.oneCell' = true) : y.cells = #[y] := by
  cases y <;> first | rfl | (simp [Value.oneCell'] at h)

theorem SRep.cells {v : SV} {y : Value} {cs : List C} (hr : SRep κ R h w v y) (hc : v.cells = some cs) : CReps κ R h w cs y.cells.toList := by
  cases v with
  | dead => cases hc
  | one c =>
    cases hc
    have hr : CRep κ R h w c y := hr
    rw [cells_one hr.oneCell]
    refine ⟨rfl, fun i c' y' h1 h2 => ?_⟩
    cases i with
    | zero => cases h1; cases h2; exact hr
    | succ i => cases h1
  | agg l =>
    cases hc
    obtain ⟨ys, rfl, hys⟩ := hr
    exact hys
  | pagg l =>
    cases hc
    obtain ⟨ys, rfl, hys⟩ := hr
    exact creps_map.2 hys

theorem CReps.ones {cs : List C} {ys : List Value} (hr : CReps κ R h w cs ys) : ∀ y ∈ ys, y.oneCell' = true := by
  intro y hy
  obtain ⟨i, hi⟩ := List.mem_iff_getElem?.1 hy
  have hlt : i < cs.length := by rw [hr.1]; exact (List.getElem?_eq_some_iff.1 hi).1
  exact (hr.2 i _ y (List.getElem?_eq_getElem hlt) hi).oneCell

theorem creps_vals {z : List Value} (hz : ∀ x ∈ z, x.oneCell' = true) : CReps κ R h w (z.map fun v => .p (.v v)) z := by
  refine ⟨by simp, fun i c y h1 h2 => ?_⟩
  rw [List.getElem?_map, h2] at h1
  cases h1
  exact .p _ _ (.v _ (hz y (List.mem_of_getElem? h2)))

theorem preps_vals {z : List Value} (hz : ∀ x ∈ z, x.oneCell' = true) : PReps R w (z.map .v) z := by
  refine ⟨by simp, fun i c y h1 h2 => ?_⟩
  rw [List.getElem?_map, h2] at h1
  cases h1
  exact .v _ (hz y (List.mem_of_getElem? h2))

/-- A new block, for a new object. -/
theorem step_new (hH : HRep G κ R h w) {nb : Nat} (hv : h nb = .void) (ob : Ob) (c : Array Value) (t : TypeId) {w' : World} (hw' : w' = w.alloc (.cells c t))
    (hob : ∀ κ' h', Ext κ R h w κ' R h' w' → κ' nb = some (w.heap.size, 0) → ¬ R w.heap.size → w'.heap[w.heap.size]? = some (.cells c t (0, 0)) → ObRep κ' R h' w' nb ob) :
    HRep G (updN κ nb (some (w.heap.size, 0))) R (putsF h [.obj nb ob]) w' ∧ Fr κ R h w (updN κ nb (some (w.heap.size, 0))) R (putsF h [.obj nb ob]) w' := by
  have hblock : w'.heap[w.heap.size]? = some (.cells c t (0, 0)) := by subst hw'; show (w.heap.push _)[w.heap.size]? = _; simp
  have he : putsF h [.obj nb ob] = fun s => if s = nb then ob else if (fun _ => false : Nat → Bool) s then .dead else h s := by
    funext s; simp [putsF, Wr.putF]
  rw [he]
  refine step_put hH nb w.heap.size 0 ob (fun _ => false) (by subst hw'; rfl) (by subst hw'; rfl) (by subst hw'; rfl) (by subst hw'; simp) (by subst hw'; simp) (fun x _ hx => ?_) (fun c' t' fr hx => ?_) (.inl (Nat.le_refl _)) (.inl hv) rfl (fun hext hR => hob _ _ hext (by simp [updN]) hR hblock)
  · subst hw'; simp only [World.alloc]; rw [Array.getElem?_push]; rw [if_neg (by omega)]
  · have := (Array.getElem?_eq_some_iff.1 hx).1; omega

theorem thawed_zero (c : Array Value) : thawed c (0, 0) := fun j _ h => by omega

theorem obrep_box {κ' : Kap} {h' : Nat → Ob} {w' : World} {s nb b : Nat} {cs : List C} {ys : List Value} {t : TypeId} (hr : CReps κ R h w cs ys) (he : Ext κ R h w κ' R h' w') (hk : κ' nb = some (b, 0)) (hR : ¬ R b)
    (hb : w'.heap[b]? = some (.cells ys.toArray t (0, 0))) : ObRep κ' R h' w' nb (.box s cs) := by
  refine ⟨b, 0, ys.toArray, t, (0, 0), hk, hb, thawed_zero _, hR, by simp [hr.1], fun j x hx => ?_⟩
  have hlt : j < ys.length := by rw [← hr.1]; exact (List.getElem?_eq_some_iff.1 hx).1
  exact ⟨ys[j], by simp [hlt], (hr.2 j x _ hx (List.getElem?_eq_getElem hlt)).ext he⟩

theorem flat_get {α : Type} {s : Nat} : ∀ {es : List (List α)} {i j : Nat} {e : List α} {c : α}, (∀ l ∈ es, l.length = s) → es[i]? = some e → e[j]? = some c → es.flatten[i * s + j]? = some c
  | [], i, j, e, c, _, h, _ => by simp at h
  | l :: es, 0, j, e, c, hl, h, hj => by
    simp only [List.getElem?_cons_zero, Option.some.injEq] at h
    subst h
    have hlt := (List.getElem?_eq_some_iff.1 hj).1
    rw [List.flatten_cons, Nat.zero_mul, Nat.zero_add, List.getElem?_append_left hlt]
    exact hj
  | l :: es, i + 1, j, e, c, hl, h, hj => by
    have hll := hl l (by simp)
    rw [List.flatten_cons, List.getElem?_append_right (by rw [hll, Nat.add_mul]; omega)]
    have : (i + 1) * s + j - l.length = i * s + j := by rw [hll, Nat.add_mul]; omega
    rw [this]
    exact flat_get (fun l' h' => hl l' (by simp [h'])) (by simpa using h) hj

theorem obrep_arr {κ' : Kap} {h' : Nat → Ob} {w' : World} {s nb b : Nat} {es : List (List PC)} {ys rest : List Value} {t : TypeId} (hs : ∀ e ∈ es, e.length = s) (hr : PReps R w es.flatten ys) (he : Ext κ R h w κ' R h' w')
    (hk : κ' nb = some (b, 0)) (hR : ¬ R b) (hb : w'.heap[b]? = some (.cells (ys ++ rest).toArray t (0, 0))) : ObRep κ' R h' w' nb (.arr s false es) := by
  have hlen : es.flatten.length = es.length * s := by
    clear hr
    induction es with
    | nil => simp
    | cons e es ih => rw [List.flatten_cons, List.length_append, ih (fun l hl => hs l (by simp [hl])), hs e (by simp), List.length_cons, Nat.add_mul]; omega
  refine .inr ⟨b, 0, (ys ++ rest).toArray, t, (0, 0), hk, hb, thawed_zero _, fun e => (by cases e), fun _ => hR, ?_, fun i e hi => ⟨hs e (List.mem_of_getElem? hi), fun j x hx => ?_⟩⟩
  · have := hr.1
    simp; omega
  · have hf := flat_get hs hi hx
    have hlt : i * s + j < ys.length := by rw [← hr.1]; exact (List.getElem?_eq_some_iff.1 hf).1
    refine ⟨ys[i * s + j], ?_, (hr.2 _ x _ hf (List.getElem?_eq_getElem hlt)).ext he.r he.cells⟩
    rw [Nat.zero_add]
    simp [List.getElem?_append_left hlt, hlt]

theorem splice_length {α : Type} (l x : List α) (off : Nat) (h : off + x.length ≤ l.length) : (splice l off x).length = l.length := by
  simp [splice]; omega

theorem splice_get {α : Type} (l x : List α) (off j : Nat) (h : off + x.length ≤ l.length) : (splice l off x)[j]? = if off ≤ j ∧ j < off + x.length then x[j - off]? else l[j]? := by
  unfold splice
  have h1 : (l.take off).length = off := by simp; omega
  by_cases ha : j < off
  · rw [List.getElem?_append_left (by omega), if_neg (by omega), List.getElem?_take, if_pos ha]
  · rw [List.getElem?_append_right (by omega), h1]
    by_cases hb : j < off + x.length
    · rw [List.getElem?_append_left (by omega), if_pos ⟨by omega, hb⟩]
    · rw [List.getElem?_append_right (by omega), if_neg (by omega), List.getElem?_drop]
      congr 1; omega

theorem creps_splice {cs x : List C} {ys : List Value} {zs : List Value} {off : Nat} (hc : CReps κ R h w cs ys) (hx : CReps κ R h w x zs) (hl : off + x.length ≤ cs.length) :
    CReps κ R h w (splice cs off x) (setRange ys.toArray off zs).toList := by
  refine ⟨by rw [splice_length _ _ _ hl]; have := setRange_size zs ys.toArray off; rw [← Array.length_toList, ← Array.length_toList] at this; rw [this]; exact hc.1, fun i c y h1 h2 => ?_⟩
  rw [splice_get _ _ _ _ hl] at h1
  rw [Array.getElem?_toList, setRange_get _ _ _ _ (by simp [← hc.1, ← hx.1]; exact hl), ← hx.1] at h2
  split at h1
  · next hin => rw [if_pos hin] at h2; exact hx.2 _ c y h1 h2
  · next hin => rw [if_neg hin] at h2; exact hc.2 i c y h1 (by simpa using h2)

theorem fold_set (zs : List Value) : ∀ (k off : Nat) (c : Array Value), ((zs.zipIdx k).foldl (fun cs (p : Value × Nat) => cs.setIfInBounds (off + p.2) p.1) c) = setRange c (off + k) zs := by
  induction zs with
  | nil => intro k off c; rfl
  | cons z zs ih => intro k off c; simp only [List.zipIdx_cons, List.foldl_cons, setRange]; rw [ih (k + 1) off]; rfl

/-- Parts laid into cells, as the machine does it. -/
theorem fill_rep {place : Nat → Option (Nat × Nat)} : ∀ (ps : List (Nat × SV)) (vals : List (Nat × Value)) (cs cs' : List C) (ys : List Value),
    ps.length = vals.length → (∀ (i : Nat) (p : Nat × SV) (v : Nat × Value), ps[i]? = some p → vals[i]? = some v → p.1 = v.1 ∧ SRep κ R h w p.2 v.2) → CReps κ R h w cs ys → fillC place cs ps = some cs' →
    ∃ zs : List Value, Instr.fill place ys.toArray vals = some zs.toArray ∧ CReps κ R h w cs' zs
  | [], [], cs, cs', ys, _, _, hc, hf => by cases hf; exact ⟨ys, rfl, hc⟩
  | [], _ :: _, _, _, _, hl, _, _, _ => by simp at hl
  | _ :: _, [], _, _, _, hl, _, _, _ => by simp at hl
  | (i, sv) :: ps, (i', v) :: vals, cs, cs', ys, hl, hp, hc, hf => by
    obtain ⟨h1, h2⟩ := hp 0 (i, sv) (i', v) rfl rfl
    simp only at h1 h2
    subst h1
    simp only [fillC, Option.bind_eq_some_iff] at hf
    obtain ⟨pl, hpl, xs, hxs, hf⟩ := hf
    split at hf
    · next hcond =>
      have hx := SRep.cells h2 hxs
      have hsz : v.cells.size = pl.2 := by rw [← hcond.1, hx.1]; simp
      have hoff : pl.1 + xs.length ≤ cs.length := by rw [hcond.1]; exact hcond.2
      have hrec := creps_splice hc hx hoff
      obtain ⟨zs, hz1, hz2⟩ := fill_rep ps vals _ cs' _ (by simpa using hl) (fun j p v' ha hb => hp (j + 1) p v' (by simpa using ha) (by simpa using hb)) hrec hf
      refine ⟨zs, ?_, hz2⟩
      obtain ⟨po, psz⟩ := pl
      simp only at hsz hoff hcond
      simp only [Instr.fill, hpl]
      rw [if_neg (by simp [hsz]; rw [← hc.1]; omega)]
      rw [← hz1]
      congr 1
      rw [← Array.foldl_toList]
      simp only [Array.toList_zipIdx]
      exact fold_set v.cells.toList 0 po ys.toArray
    · cases hf

end
end Go.Ev

namespace Go.Ev
open Go
variable {G : Nat → Option (List PC)}

section
variable {κ : Kap} {R : Nat → Prop} {h : Nat → Ob} {w : World}

/-- A slice of an array of the abstract heap, its cells read: wherever its block may be read alone (b in R'). -/
theorem own_sl {R' : Nat → Prop} {slot off len s : Nat} {fz : Bool} {es : List (List PC)} {y : Value} (hH : HRep G κ R h w) (hs : h slot = .arr s fz es) (hc : CRep κ R h w (.own slot off len) y) (hl : off + len ≤ es.length)
    (hR : ∀ b, R b → R' b) (hb : ∀ b o, κ slot = some (b, o) → R' b) : PRep R' w (.sl s false ((es.drop off).take len)) y := by
  cases hc with
  | ownDead _ _ _ _ hd => rw [hs] at hd; cases hd
  | own _ _ _ cap A s0 g1 g2 g3 g4 =>
    rw [hs] at g1; simp only [Ob.stride, Option.some.injEq] at g1; subst g1
    have hlen : len = ((es.drop off).take len).length := by simp; omega
    by_cases h0 : len = 0
    · subst h0
      simp only [List.take_zero]
      exact .sl s false [] A 0 cap (fun _ _ => undef) 0 0 rfl g2 (fun e => by cases e) g3 (fun e => absurd rfl e) (fun i e he => by simp at he) (fun i e j c he => by simp at he)
    · rcases g4 with g4 | ⟨b, o, k1, k2, k3⟩
      · omega
      · have hob := hH.obs slot
        rw [hs] at hob
        rcases hob with ⟨h1, h2⟩ | ⟨b', o', c, t, fr, h1, h2, h3, h4, h5, h6, h7⟩
        · rw [k1] at h1; cases h1
        · rw [k1] at h1; cases h1
          refine .sl s false _ A len cap (fun i j => (c[o + (off + i) * s + j]?).getD undef) b (o + off * s) hlen g2 (fun e => by cases e) g3 (fun _ => ⟨k2, hb b o k1⟩) (fun i e he => ?_) (fun i e j x he hj => ?_)
          · rw [List.getElem?_take] at he
            split at he
            · rw [List.getElem?_drop] at he
              obtain ⟨q1, q2⟩ := h7 _ e he
              refine ⟨q1, fun j hj => ?_⟩
              obtain ⟨y, hy, _⟩ := q2 j e[j] (List.getElem?_eq_getElem (by omega))
              rw [cell_of_cells h2]
              have : o + off * s + i * s + j = o + (off + i) * s + j := by rw [Nat.add_mul]; omega
              rw [this, hy]; rfl
            · cases he
          · rw [List.getElem?_take] at he
            split at he
            · rw [List.getElem?_drop] at he
              obtain ⟨q1, q2⟩ := h7 _ e he
              obtain ⟨y, hy, hr⟩ := q2 j x hj
              rw [hy]
              exact hr.ext hR (fun _ _ => rfl)
            · cases he

/-- Cells laid to be read alone: the arrays that they name are written no more. -/
theorem toPs_step {H : List Ob} : ∀ (cs : List C) (l : List PC) (wr : List Wr) (rd : List Reg) (ys : List Value) (h1 : Nat → Ob) (R1 : Nat → Prop), toPs H cs = some (l, wr, rd) →
    (∀ slot, Reg.obj slot ∈ rd → ∃ s fz es fz', hget H slot = .arr s fz es ∧ h1 slot = .arr s fz' es) → HRep G κ R1 h1 w → CReps κ R1 h1 w cs ys →
    ∃ R', HRep G κ R' (putsF h1 wr) w ∧ Fr κ R1 h1 w κ R' (putsF h1 wr) w ∧ PReps R' w l ys ∧ ∀ slot, h1 slot = .void → putsF h1 wr slot = .void
  | [], l, wr, rd, ys, h1, R1, ht, hrd, hH, hc => by
    cases ht
    refine ⟨R1, hH, Fr.refl .., ⟨hc.1, fun i c y h1 => by simp at h1⟩, fun _ h => h⟩
  | c :: cs, l, wr, rd, ys, h1, R1, ht, hrd, hH, hc => by
    simp only [toPs, Option.bind_eq_some_iff] at ht
    obtain ⟨x, hx, q, hq, ht⟩ := ht
    cases ht
    match ys, hc.1 with
    | y :: ys, hlen =>
      have hcy : CRep κ R1 h1 w c y := hc.2 0 c y rfl rfl
      have hcs : CReps κ R1 h1 w cs ys := ⟨by simpa using hlen, fun i c' y' a b => hc.2 (i + 1) c' y' (by simpa using a) (by simpa using b)⟩
      have hone : ∃ R2, HRep G κ R2 (putsF h1 x.2.1) w ∧ Fr κ R1 h1 w κ R2 (putsF h1 x.2.1) w ∧ PRep R2 w x.1 y ∧ (∀ slot, h1 slot = .void → putsF h1 x.2.1 slot = .void) ∧
          (∀ slot s fz es, h1 slot = .arr s fz es → ∃ fz', putsF h1 x.2.1 slot = .arr s fz' es) := by
        unfold toP at hx
        split at hx
        · cases hx
          cases hcy with
          | p _ _ hp => exact ⟨R1, hH, Fr.refl .., hp, fun _ h => h, fun slot s fz es h => ⟨fz, h⟩⟩
        · next slot off len =>
          split at hx
          · next s fz es hob =>
            split at hx
            · next hl =>
              cases hx
              obtain ⟨s', fz0, es', fz', e1, e2⟩ := hrd slot (by simp)
              have e0 : hget H slot = .arr s fz es := by simp [hget, hob]
              rw [e0] at e1; cases e1
              obtain ⟨f1, f2⟩ := step_freeze hH slot s fz' es e2
              have hput : putsF h1 [.obj slot (.arr s true es)] = updN h1 slot (.arr s true es) := by funext i; simp [putsF, Wr.putF, updN]
              simp only
              rw [hput]
              refine ⟨_, f1, f2, ?_, fun k hk => ?_, fun k s1 fz1 es1 hk => ?_⟩
              · exact own_sl (R' := fun b => R1 b ∨ ∃ o, κ slot = some (b, o)) hH e2 hcy hl (fun b hb => .inl hb) (fun b o hb => .inr ⟨o, hb⟩)
              · by_cases hks : k = slot
                · subst hks; rw [e2] at hk; cases hk
                · simp [updN, hks, hk]
              · by_cases hks : k = slot
                · subst hks; rw [e2] at hk; cases hk; exact ⟨true, by simp [updN]⟩
                · exact ⟨fz1, by simp [updN, hks, hk]⟩
            · cases hx
          · cases hx
        · cases hx
      obtain ⟨R2, a1, a2, a3, a4, a5⟩ := hone
      obtain ⟨R3, b1, b2, b3, b4⟩ := toPs_step cs q.1 q.2.1 q.2.2 ys (putsF h1 x.2.1) R2 hq (fun slot hs => by
        obtain ⟨s, fz, es, fz', e1, e2⟩ := hrd slot (by simp [hs])
        obtain ⟨fz2, e3⟩ := a5 slot s fz' es e2
        exact ⟨s, fz, es, fz2, e1, e3⟩) a1 (hcs.ext a2.ext)
      have hput : putsF h1 (x.2.1 ++ q.2.1) = putsF (putsF h1 x.2.1) q.2.1 := by simp [putsF, List.foldl_append]
      rw [hput]
      refine ⟨R3, b1, a2.trans b2, ⟨by simpa using b3.1, fun i c' y' hi hy => ?_⟩, fun k hk => b4 k (a4 k hk)⟩
      cases i with
      | zero => cases hi; cases hy; exact a3.ext b2.ext.r b2.ext.cells
      | succ i => exact b3.2 i c' y' (by simpa using hi) (by simpa using hy)

theorem toPs_regs {H : List Ob} {h' : Nat → Ob} : ∀ (cs : List C) (l : List PC) (wr : List Wr) (rd : List Reg), toPs H cs = some (l, wr, rd) → (∀ q ∈ rd, q.getF h' = q.getF (hget H)) →
    ∀ slot, Reg.obj slot ∈ rd → ∃ s fz es fz', hget H slot = .arr s fz es ∧ h' slot = .arr s fz' es
  | [], l, wr, rd, ht, _, slot, hs => by cases ht; simp at hs
  | c :: cs, l, wr, rd, ht, hrd, slot, hs => by
    simp only [toPs, Option.bind_eq_some_iff] at ht
    obtain ⟨x, hx, q, hq, ht⟩ := ht
    cases ht
    simp only [List.mem_append] at hs
    rcases hs with hs | hs
    · unfold toP at hx
      split at hx
      · cases hx; simp at hs
      · next slot' off len =>
        split at hx
        · next s fz es hob =>
          split at hx
          · cases hx
            simp only [List.mem_singleton, Reg.obj.injEq] at hs
            subst hs
            have e0 : hget H slot = .arr s fz es := by simp [hget, hob]
            have := hrd (.obj slot) (by simp)
            simp only [Reg.getF, RegValF.obj.injEq] at this
            exact ⟨s, fz, es, fz, e0, by rw [this, e0]⟩
          · cases hx
        · cases hx
      · cases hx
    · exact toPs_regs cs q.1 q.2.1 q.2.2 hq (fun r hr => hrd r (by simp [hr])) slot hs

/-- Zero cells, one element after the other. -/
theorem zeros_list {z : List Value} {s : Nat} (hz : z.length = s) (hs : 0 < s) : ∀ n : Nat, (List.range (n * s)).map (fun i => z.toArray[i % s]!) = (List.replicate n z).flatten
  | 0 => by simp
  | n + 1 => by
    rw [show (n + 1) * s = s + n * s by rw [Nat.add_mul]; omega, List.range_add, List.map_append, List.replicate_succ, List.flatten_cons, ← zeros_list hz hs n]
    congr 1
    · apply List.ext_getElem?
      intro i
      rw [List.getElem?_map]
      by_cases hi : i < s
      · rw [List.getElem?_range hi]
        simp only [Option.map_some, Nat.mod_eq_of_lt hi]
        rw [getElem!_pos _ _ (by simpa [hz] using hi)]
        simp [hz, hi]
      · rw [List.getElem?_eq_none (by simpa using hi), List.getElem?_eq_none (by omega)]
        rfl
    · rw [List.map_map]
      apply List.map_congr_left
      intro i _
      simp [Nat.add_mod_left]

theorem flatZero_eq {z : List Value} (n : Nat) : flatZero z n = ((List.replicate n z).flatten).map (fun v => .p (.v v)) := by
  induction n with
  | zero => rfl
  | succ n ih => simp [flatZero, List.replicate_succ, ih]

theorem chunk_get {α : Type} {s : Nat} : ∀ (n : Nat) (l : List α), l.length = n * s → (∀ e ∈ chunk s n l, e.length = s) ∧ (chunk s n l).flatten = l ∧ (chunk s n l).length = n
  | 0, l, h => by
    have : l = [] := List.eq_nil_of_length_eq_zero (by simpa using h)
    subst this
    exact ⟨fun e he => by simp [chunk] at he, rfl, rfl⟩
  | n + 1, l, h => by
    rw [Nat.add_mul] at h
    obtain ⟨h1, h2, h3⟩ := chunk_get (s := s) n (l.drop s) (by rw [List.length_drop]; omega)
    refine ⟨fun e he => ?_, by simp [chunk, h2], by simp [chunk, h3]⟩
    simp only [chunk, List.mem_cons] at he
    rcases he with rfl | he
    · rw [List.length_take]; omega
    · exact h1 e he

end
section ops
variable {ρ : Type} {E : Env} {tm : List AV} {H : List Ob} {nb : Nat} {K : Out → Option ρ} {r : ρ}
variable {dst : Option Tmp} {ty : TypeId} {pos : String} {after : Array Edge} {guard : Option (Nat × Bool)}

/-- A box in new memory. -/
theorem new_box {κ : Kap} {R : Nat → Prop} {h' : Nat → Ob} {w : World} (hH : HRep G κ R h' w) (hv : h' nb = .void) (s : Nat) {cs : List C} {ys : List Value} (t : TypeId) (hr : CReps κ R h' w cs ys) :
    ∃ κ', κ' nb = some (w.heap.size, 0) ∧ HRep G κ' R (putsF h' [.obj nb (.box s cs)]) (w.alloc (.cells ys.toArray t)) ∧ Fr κ R h' w κ' R (putsF h' [.obj nb (.box s cs)]) (w.alloc (.cells ys.toArray t)) := by
  refine ⟨_, ?_, step_new hH hv (.box s cs) ys.toArray t rfl fun κ2 h2 he hk hR hb => obrep_box hr he hk hR hb⟩
  simp [updN]

theorem new_arr {κ : Kap} {R : Nat → Prop} {h' : Nat → Ob} {w : World} (hH : HRep G κ R h' w) (hv : h' nb = .void) {s : Nat} {es : List (List PC)} {ys rest : List Value} (t : TypeId) (hs : ∀ e ∈ es, e.length = s) (hr : PReps R w es.flatten ys) :
    ∃ κ', κ' nb = some (w.heap.size, 0) ∧ HRep G κ' R (putsF h' [.obj nb (.arr s false es)]) (w.alloc (.cells (ys ++ rest).toArray t)) ∧ Fr κ R h' w κ' R (putsF h' [.obj nb (.arr s false es)]) (w.alloc (.cells (ys ++ rest).toArray t)) := by
  refine ⟨_, ?_, step_new hH hv (.arr s false es) (ys ++ rest).toArray t rfl fun κ2 h2 he hk hR hb => obrep_arr hs hr he hk hR hb⟩
  simp [updN]

theorem put_get (h' : Nat → Ob) (nb : Nat) (ob : Ob) : putsF h' [.obj nb ob] nb = ob := by simp [putsF, Wr.putF]

theorem sim_alloc {t : TypeId} (h : aop E tm H nb ⟨dst, .alloc t, ty, pos, after, guard⟩ K = some r) : Does E tm H nb ⟨dst, .alloc t, ty, pos, after, guard⟩ K r := by
  simp only [aop, Option.bind_eq_some_iff] at h
  obtain ⟨s, hs, z, hz, hK⟩ := h
  refine ⟨_, hK, fun t' h' κ R a w hal hrel => ?_⟩
  obtain ⟨v, h1, h2, h3⟩ := run_zero' hz w
  obtain ⟨κ', k1, k2, k3⟩ := new_box (G := E.G) (nb := nb) hrel.heap (hal.free nb (Nat.le_refl _) (by simp)) s t (creps_vals h3)
  refine ⟨κ', R, .pointer (some ⟨w.heap.size, 0, none⟩), _, .inl ?_, ?_, k2, k3⟩
  · simp only [execOp, Instr.alloc, Sem.run_bind, h1, Result.andThen_ok, newVar, newRow, run_newObj, Sem.run_pure]
    rw [← h2]
    rfl
  · exact .bp nb 0 w.heap.size 0 s (by rw [put_get]; rfl) k1

theorem sim_box {t : TypeId} {x : Operand} (h : aop E tm H nb ⟨dst, .box t x, ty, pos, after, guard⟩ K = some r) : Does E tm H nb ⟨dst, .box t x, ty, pos, after, guard⟩ K r := by
  simp only [aop, Option.bind_eq_some_iff] at h
  obtain ⟨v, hv, u, hu, cs, hcs, hK⟩ := h
  refine ⟨_, hK, fun t' h' κ R a w hal hrel => ?_⟩
  have hrep := operand_rep hrel hv (hal.opnd (by simp [Op.operands]))
  cases v with
  | tup l => cases hu
  | g _ _ _ => cases hu
  | s x' =>
    cases hu
    have hcr := SRep.cells hrep hcs
    obtain ⟨κ', k1, k2, k3⟩ := new_box (G := E.G) (nb := nb) hrel.heap (hal.free nb (Nat.le_refl _) (by simp)) cs.length t hcr
    refine ⟨κ', R, .pointer (some ⟨w.heap.size, 0, none⟩), _, .inl ?_, ?_, k2, k3⟩
    · simp only [execOp, Instr.box, Sem.run_bind, newVar, newRow, run_newObj, Result.andThen_ok, Sem.run_pure]
      rfl
    · exact .bp nb 0 w.heap.size 0 cs.length (by rw [put_get]; rfl) k1

theorem sim_makeFunc {f : FuncId} {first captured : Array Operand} (h : aop E tm H nb ⟨dst, .makeFunc (.func f) first captured, ty, pos, after, guard⟩ K = some r) : Does E tm H nb ⟨dst, .makeFunc (.func f) first captured, ty, pos, after, guard⟩ K r := by
  simp only [aop] at h
  split at h
  · next hf =>
    simp only [Option.bind_eq_some_iff] at h
    obtain ⟨cs, hcs, hK⟩ := h
    refine ⟨_, hK, .of_value fun t' h' κ R a w hal hrel => ?_⟩
    have hf' : first = #[] := Array.eq_empty_of_size_eq_zero hf
    subst hf'
    have key : ∀ (l : List Operand) (cs : List C), (∀ x ∈ l, x ∈ captured.toList) → (l.mapM fun x => (operand tm x).bind fun v => match v with | .s (.one c) => some c | _ => none) = some cs → CReps κ R h' w cs (l.map a.eval) := by
      intro l
      induction l with
      | nil => intro cs _ hm; simp at hm; subst hm; exact ⟨rfl, fun i c y h1 => by simp at h1⟩
      | cons x l ih =>
        intro cs hmem hm
        simp only [List.mapM_cons, bind, Option.bind_eq_some_iff, pure, Option.some.injEq] at hm
        obtain ⟨c, ⟨v, hv, hc⟩, cs', hcs', rfl⟩ := hm
        have hrec := ih cs' (fun y hy => hmem y (by simp [hy])) hcs'
        have hx := operand_rep hrel hv (hal.opnd (by simp only [Op.operands, Array.empty_append]; simpa using hmem x (by simp)))
        split at hc
        · cases hc
          refine ⟨by simp [hrec.1], fun i c' y h1 h2 => ?_⟩
          cases i with
          | zero => simp only [List.map_cons, List.getElem?_cons_zero, Option.some.injEq] at h1 h2; subst h1; subst h2; exact hx
          | succ i => exact hrec.2 i c' y (by simpa using h1) (by simpa using h2)
        · cases hc
    have hr := key captured.toList cs (fun x hx => hx) hcs
    refine ⟨.func (.func f) #[] (captured.toList.map a.eval).toArray, ?_, .clo f cs _ hr.1 hr.2⟩
    have hcap : captured.map a.eval = (captured.toList.map a.eval).toArray := by apply Array.ext'; simp
    simp only [execOp, Instr.makeFunc, Sem.run_bind, Sem.run_pure, Result.andThen_ok, hcap, Array.map_empty]
  · cases h

/-- The parts of a built value. -/
theorem parts_rep {κ : Kap} {R : Nat → Prop} {t' : Nat → AV} {h' : Nat → Ob} {a : Act} {w : World} (hrel : Rel E.G κ R tm.length t' h' a w) : ∀ (ps : List (Nat × Operand)) (vs : List (Nat × SV)), parts tm ps = some vs →
    (∀ p ∈ ps, ∀ t, p.2 = .tmp t → t' t = tget tm t) →
    vs.length = (ps.map fun p => (p.1, a.eval p.2)).length ∧ ∀ (i : Nat) (p : Nat × SV) (v : Nat × Value), vs[i]? = some p → (ps.map fun p => (p.1, a.eval p.2))[i]? = some v → p.1 = v.1 ∧ SRep κ R h' w p.2 v.2
  | [], vs, hp, _ => by simp [parts] at hp; subst hp; exact ⟨rfl, fun i p v h1 => by simp at h1⟩
  | p :: ps, vs, hp, hal => by
    simp only [parts, List.mapM_cons, bind, Option.bind_eq_some_iff, pure, Option.some.injEq] at hp
    obtain ⟨q, ⟨v, hv, hq⟩, vs', hvs', rfl⟩ := hp
    obtain ⟨h1, h2⟩ := parts_rep hrel ps vs' hvs' (fun p' hp' => hal p' (by simp [hp']))
    refine ⟨by simpa using h1, fun i p' v' hi hv' => ?_⟩
    cases i with
    | zero =>
      simp only [List.map_cons, List.getElem?_cons_zero, Option.some.injEq] at hi hv'
      subst hi; subst hv'
      simp only [Option.map_eq_some_iff] at hq
      obtain ⟨sv, hsv, rfl⟩ := hq
      have := operand_rep hrel hv (hal p (by simp))
      cases v with
      | tup l => cases hsv
      | g _ _ _ => cases hsv
      | s x => cases hsv; exact ⟨rfl, this⟩
    | succ i => exact h2 i p' v' (by simpa using hi) (by simpa using hv')

theorem mem_snd {ps : Array (Nat × Operand)} {p : Nat × Operand} (h : p ∈ ps.toList) : p.2 ∈ (ps.toList.map (·.2)).toArray := by
  simp only [List.mem_toArray, List.mem_map]
  exact ⟨p, h, rfl⟩

theorem mapM_places (P : Program) (w : World) : ∀ (l : List Field) (pl : List (Nat × Nat)), (l.mapM fun (f : Field) => (szOf P f.type).map fun s => (f.offset, s)) = some pl →
    (l.mapM (m := Sem) fun (f : Field) => do pure (f.offset, ← sizeOf f.type)).run P w = .ok pl w
  | [], pl, h => by simp at h; subst h; rfl
  | f :: l, pl, h => by
    simp only [List.mapM_cons, bind, Option.bind_eq_some_iff, pure, Option.some.injEq, Option.map_eq_some_iff] at h
    obtain ⟨q, ⟨s, hs, rfl⟩, pl', hpl', rfl⟩ := h
    have ih := mapM_places P w l pl' hpl'
    rw [List.mapM_cons]
    simp only [Sem.run_bind, run_sizeOf' hs, Result.andThen_ok, Sem.run_pure, ih]

theorem arr_mapM {α β : Type} (f : α → Sem β) (l : Array α) (P : Program) (w : World) : (l.mapM f).run P w = ((l.toList.mapM f).run P w).andThen fun x w' => .ok x.toArray w' := by
  rw [Array.mapM_eq_mapM_toList, Sem.run_map]

theorem sim_build {t : TypeId} {ps : Array (Nat × Operand)} (h : aop E tm H nb ⟨dst, .build t ps, ty, pos, after, guard⟩ K = some r) : Does E tm H nb ⟨dst, .build t ps, ty, pos, after, guard⟩ K r := by
  simp only [aop, Option.bind_eq_some_iff] at h
  obtain ⟨z, hz, vs, hvs, cs, hcs, v, hv, hK⟩ := h
  refine ⟨_, hK, .of_value fun t' h' κ R a w hal hrel => ?_⟩
  obtain ⟨zv, z1, z2, z3⟩ := run_zero' hz w
  obtain ⟨p1, p2⟩ := parts_rep hrel ps.toList vs hvs (fun p hp => hal.opnd (by simp only [Op.operands]; exact mem_snd hp))
  have hparts : (ps.map fun (p : Nat × Operand) => (p.1, a.eval p.2)).toList = ps.toList.map fun p => (p.1, a.eval p.2) := by simp
  have hzc : zv.cells = z.toArray := by rw [← z2]
  split at hcs
  · next fs hu =>
    simp only [Option.bind_eq_some_iff] at hcs
    obtain ⟨pl, hpl, hf⟩ := hcs
    obtain ⟨zs, hz1, hz2⟩ := fill_rep vs _ _ cs z p1 p2 (creps_vals z3) hf
    obtain ⟨hs, _⟩ := mkC_rep hv hz2
    refine ⟨.agg zs.toArray, ?_, hs⟩
    simp only [execOp, Instr.build, Sem.run_bind, z1, Result.andThen_ok, run_underlying' hu, arr_mapM, mapM_places E.P w fs.toList pl hpl, hzc, hparts]
    have : (fun (i : Nat) => (pl.toArray)[i]?) = (fun (i : Nat) => pl[i]?) := by funext i; simp
    rw [this, hz1]
    rfl
  · next m e hu =>
    simp only [Option.bind_eq_some_iff] at hcs
    obtain ⟨s, hs, hf⟩ := hcs
    obtain ⟨zs, hz1, hz2⟩ := fill_rep vs _ _ cs z p1 p2 (creps_vals z3) hf
    obtain ⟨hsr, _⟩ := mkC_rep hv hz2
    refine ⟨.agg zs.toArray, ?_, hsr⟩
    simp only [execOp, Instr.build, Sem.run_bind, z1, Result.andThen_ok, run_underlying' hu, run_sizeOf' hs, hzc, hparts, hz1]
    rfl
  · cases hcs

theorem sim_buildSlice {t : TypeId} {len : Nat} {ps : Array (Nat × Operand)} (h : aop E tm H nb ⟨dst, .buildSlice t len ps, ty, pos, after, guard⟩ K = some r) : Does E tm H nb ⟨dst, .buildSlice t len ps, ty, pos, after, guard⟩ K r := by
  simp only [aop, Option.bind_eq_some_iff] at h
  obtain ⟨e, he, s, hs, z, hz, vs, hvs, h⟩ := h
  have hu : E.P.underlying t = some (.slice e) := by
    unfold elemT at he
    split at he
    · next hu => cases he; exact hu
    · cases he
  split at h
  · next hcond =>
    obtain ⟨hzl, hs0, hbig⟩ := hcond
    simp only [Option.bind_eq_some_iff] at h
    obtain ⟨cs, hcs, h⟩ := h
    -- the machine's cells
    have hrun : ∀ (t' : Nat → AV) (h' : Nat → Ob) (κ : Kap) (R : Nat → Prop) (a : Act) (w : World), (∀ x ∈ opndTmps ⟨dst, .buildSlice t len ps, ty, pos, after, guard⟩, t' x = tget tm x) → Rel E.G κ R tm.length t' h' a w →
        ∃ ys : List Value, CReps κ R h' w cs ys ∧ cs.length = len * s ∧
          (execOp a.eval ⟨dst, .buildSlice t len ps, ty, pos, after, guard⟩).run E.P w = .ok (.value (.slice (some ⟨w.heap.size, 0, none⟩) len len)) (w.alloc (.cells ys.toArray e)) := by
      intro t' h' κ R a w hal hrel
      obtain ⟨zv, z1, z2, z3⟩ := run_zero' hz w
      obtain ⟨p1, p2⟩ := parts_rep hrel ps.toList vs hvs (fun p hp t ht => hal t (mem_opnd (by simp only [Op.operands]; rw [← ht]; exact mem_snd hp)))
      have hparts : (ps.map fun (p : Nat × Operand) => (p.1, a.eval p.2)).toList = ps.toList.map fun p => (p.1, a.eval p.2) := by simp
      have hzc : zv.cells = z.toArray := by rw [← z2]
      have hbase : CReps κ R h' w (flatZero z len) (List.replicate len z).flatten := by
        rw [flatZero_eq]
        exact creps_vals (fun x hx => by
          simp only [List.mem_flatten, List.mem_replicate] at hx
          obtain ⟨l, ⟨_, rfl⟩, hx⟩ := hx
          exact z3 x hx)
      obtain ⟨zs, hz1, hz2⟩ := fill_rep vs _ _ cs _ p1 p2 hbase hcs
      refine ⟨zs, hz2, ?_, ?_⟩
      · have : ∀ (ps : List (Nat × SV)) (c c' : List C), fillC (fun i => some (i * s, s)) c ps = some c' → c'.length = c.length := by
          intro ps
          induction ps with
          | nil => intro c c' hf; cases hf; rfl
          | cons q ps ih =>
            intro c c' hf
            obtain ⟨i, sv⟩ := q
            simp only [fillC, Option.bind_some, Option.bind_eq_some_iff] at hf
            obtain ⟨xs, hxs, hf⟩ := hf
            split at hf
            · next hc => rw [ih _ _ hf, splice_length _ _ _ (by omega)]
            · cases hf
        rw [this vs _ cs hcs, hbase.1]
        simp [hzl]
      · have hcells : ((Array.range (len * s)).map (fun i => z.toArray[i % s]!)) = ((List.replicate len z).flatten).toArray := by
          apply Array.ext'
          rw [← zeros_list hzl hs0 len]
          simp
        simp only [execOp, Instr.buildSlice, Sem.run_bind, run_underlying' hu, Result.andThen_ok, run_sizeOf' hs]
        rw [if_neg (by omega)]
        by_cases h0 : len * s = 0
        · have hl0 : len = 0 := by
            rcases Nat.mul_eq_zero.1 h0 with h | h
            · exact h
            · omega
          subst hl0
          simp only [h0, if_true, Sem.run_bind, Sem.run_pure, Result.andThen_ok, hparts]
          have hz1' : Instr.fill (fun i => some (i * s, s)) (Array.map (fun x => (#[] : Array Value)[x % (#[] : Array Value).size]!) (Array.range 0)) (ps.toList.map fun p => (p.1, a.eval p.2)) = some zs.toArray := by
            have hr0 : Array.map (fun x => (#[] : Array Value)[x % (#[] : Array Value).size]!) (Array.range 0) = ((List.replicate 0 z).flatten).toArray := by apply Array.ext'; simp
            rw [hr0]; exact hz1
          rw [hz1']
          rfl
        · rw [if_neg h0]
          simp only [Sem.run_bind, z1, Result.andThen_ok, Sem.run_pure, hzc, hparts]
          have hzs : z.toArray.size = s := by simpa using hzl
          rw [hzs, hcells, hz1]
          rfl
    split at h
    · next hm =>
      refine ⟨_, h, fun t' h' κ R a w hal hrel => ?_⟩
      obtain ⟨ys, hys, hlen, hrun⟩ := hrun t' h' κ R a w hal.tmps hrel
      obtain ⟨κ', k1, k2, k3⟩ := new_box (G := E.G) (nb := nb) hrel.heap (hal.free nb (Nat.le_refl _) (by simp)) s e hys
      refine ⟨κ', R, _, _, .inl hrun, ?_, k2, k3⟩
      refine .own nb 0 len len _ s (by rw [put_get]; rfl) (Nat.le_refl _) (fun e => by cases e) (.inr ⟨w.heap.size, 0, k1, by simp, ?_⟩)
      exact ⟨ys.toArray, e, (0, 0), by show (w.heap.push _)[w.heap.size]? = _; simp, by simp [← hys.1, hlen]⟩
    · next hm =>
      simp only [Option.bind_eq_some_iff] at h
      obtain ⟨q, hq, hK⟩ := h
      refine ⟨_, hK, fun t' h' κ R a w hal hrel => ?_⟩
      obtain ⟨ys, hys, hlen, hrun⟩ := hrun t' h' κ R a w hal.tmps hrel
      obtain ⟨R1, a1, a2, a3, a4⟩ := toPs_step (G := E.G) (κ := κ) cs q.1 q.2.1 q.2.2 ys h' R hq (toPs_regs cs q.1 q.2.1 q.2.2 hq (fun r hr => hal.regs r hr)) hrel.heap hys
      have hql : q.1.length = len * s := by rw [a3.1, ← hys.1, hlen]
      obtain ⟨c1, c2, c3⟩ := chunk_get (s := s) len q.1 hql
      obtain ⟨κ', k1, k2, k3⟩ := new_arr (G := E.G) (nb := nb) (rest := []) a1 (a4 nb (hal.free nb (Nat.le_refl _) (by simp))) e c1 (by rw [c2]; exact a3)
      rw [List.append_nil] at k2 k3
      have hput : putsF h' (q.2.1 ++ [.obj nb (.arr s false (chunk s len q.1))]) = putsF (putsF h' q.2.1) [.obj nb (.arr s false (chunk s len q.1))] := by simp [putsF, List.foldl_append]
      refine ⟨κ', R1, _, _, .inl hrun, ?_, by rw [hput]; exact k2, by rw [hput]; exact a2.trans k3⟩
      refine .own nb 0 len len _ s (by rw [hput, put_get]; rfl) (Nat.le_refl _) (fun e => by cases e) (.inr ⟨w.heap.size, 0, k1, by simp, ?_⟩)
      exact ⟨ys.toArray, e, (0, 0), by show (w.heap.push _)[w.heap.size]? = _; simp, by simp [← hys.1, hlen]⟩
  · cases h

end ops
end Go.Ev
