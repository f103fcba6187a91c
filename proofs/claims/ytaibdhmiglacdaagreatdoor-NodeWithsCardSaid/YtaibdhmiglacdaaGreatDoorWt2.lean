/-
  The quick evaluator, part 3: dispatch.
  The quick evaluator, part 4: calls, code.
  The quick evaluator computes what the evaluator computes.
-/
import Derived.Test.YtaibdhmiglacdaaGreatDoorWt1

namespace Go.Ev
open Go
set_option maxRecDepth 100000

abbrev TN := Nat → Option NV
def AgN (l : List AV) (t : TN) : Prop := ∀ i, (t i).map NV.av = l[i]?
noncomputable def constN (v : Value) : NV := avN (ofValue v)
noncomputable def opdN (t : TN) : Operand → Option NV := @Operand.rec (fun _ => Option NV) t (fun v => some (constN v)) (fun g => some (.gp g 0)) (fun f => some (.one (.clo f [])))
theorem opdN_ok {l : List AV} {t : TN} (h : AgN l t) : OkO (opdN t) (operand l) := by
  intro x; cases x with
  | tmp i => exact h i
  | const v => exact congrArg some (avN_av _)
  | _ => rfl
def avO (opd : ON) : Operand → Option AV := fun x => (opd x).map NV.av
theorem avO_eq {opd : ON} {f : Operand → Option AV} (h : OkO opd f) : avO opd = f := funext h
noncomputable def avK {ρ : Type} (K : OutN → Option ρ) : Out → Option ρ := fun o => K ⟨avN o.v, o.wr, o.rd, o.nb⟩
theorem avK_eq {ρ : Type} {K' : OutN → Option ρ} {K : Out → Option ρ} (h : ∀ o, K' o = K o.out) : avK K' = K := by
  funext o; unfold avK; rw [h]; simp only [OutN.out, avN_av]

noncomputable def pushN (N : Nat) (t : TN) (d : Nat) (v : NV) : TN := fun i => @Bool.rec (fun _ => Option NV) (t i) (@Bool.rec (fun _ => Option NV) none (some v) (Nat.ble (Nat.succ d) N)) (Nat.beq i d)
theorem pushN_ag {l : List AV} {t : TN} {N d : Nat} {v : NV} (h : AgN l t) (hN : l.length = N) : AgN (l.set d v.av) (pushN N t d v) := by
  intro i
  have := pushT_ag (t := fun i => (t i).map NV.av) (d := d) (v := v.av) (fun i => (h i).symm) hN i
  rw [this]
  unfold pushN pushT
  cases Nat.beq i d with
  | false => rfl
  | true => cases Nat.ble (Nat.succ d) N <;> rfl

noncomputable def forceTab : NV → ∀ ρ : Type, (NV → ρ) → ρ := @NV.rec (fun _ => ∀ ρ : Type, (NV → ρ) → ρ) (fun k n _ K => forceI n fun n => K (.int k n)) (fun b _ K => forceB b fun b => K (.bool b)) (fun s _ K => K (.str s))
  (fun s o _ K => forceN s fun s => forceN o fun o => K (.bp s o)) (fun s i o _ K => forceN s fun s => forceN i fun i => forceN o fun o => K (.ap s i o)) (fun e o _ K => forceN o fun o => K (.rp e o)) (fun g o _ K => forceN o fun o => K (.gp g o))
  (fun s o l _ K => forceN s fun s => forceN o fun o => forceN l fun l => K (.own s o l)) (fun s nn es _ K => K (.sl s nn es)) (fun c _ K => K (.one c)) (fun l _ K => K (.tup l)) (fun l _ K => K (.pagg l)) (fun l _ K => K (.agg l)) (fun v _ K => K (.other v))
theorem forceTab_eq (v : NV) (ρ : Type) (K : NV → ρ) : forceTab v ρ K = K v := by
  cases v <;> simp only [forceTab, forceI_eq, forceB_eq, forceN_eq]

/-- The heap is written. -/
noncomputable def hpSet (hp : HP) (slot : Nat) (o : Ob) : HP := fun i => @Bool.rec (fun _ => Option Ob) (hp i) (some o) (Nat.beq i slot)
theorem hpSet_set {H : List Ob} {slot : Nat} {o : Ob} (h : slot < H.length) : hpSet (Hp H) slot o = Hp (H.set slot o) := by
  funext i
  unfold hpSet Hp
  rw [List.getElem?_set]
  by_cases e : slot = i
  · subst e; rw [Nat.beq_refl, if_pos rfl, if_pos h]
  · have : Nat.beq i slot = false := by
      cases hb : Nat.beq i slot with
      | false => rfl
      | true => exact absurd (Nat.eq_of_beq_eq_true hb).symm e
    rw [this, if_neg e]
theorem hpSet_add {H : List Ob} {o : Ob} : hpSet (Hp H) H.length o = Hp (H ++ [o]) := by
  funext i
  unfold hpSet Hp
  by_cases e : i = H.length
  · subst e; rw [Nat.beq_refl]; simp
  · have : Nat.beq i H.length = false := by
      cases hb : Nat.beq i H.length with
      | false => rfl
      | true => exact absurd (Nat.eq_of_beq_eq_true hb) e
    rw [this]
    by_cases h : i < H.length
    · rw [List.getElem?_append_left h]
    · rw [List.getElem?_append_right (by omega)]
      have h1 : H[i]? = none := by simp; omega
      have h2 : [o][i - H.length]? = none := by simp; omega
      rw [h1, h2]
structure BX where
  s : Nat
  cs : List C
noncomputable def obBX : Ob → Option BX := @Ob.rec (fun _ => Option BX) none none (fun s cs => some ⟨s, cs⟩) (fun _ _ _ => none)
noncomputable def putBox {ρ : Type} (slot off : Nat) (x : List C) (hp : HP) (n : Nat) (K : HP → Nat → Option ρ) : Option ρ :=
  @Option.rec Ob (fun _ => Option ρ) (K hp n) (fun o => @Option.rec BX (fun _ => Option ρ) (K hp n) (fun b => cond (Nat.ble (Nat.add off x.length) b.cs.length) (spineK (splice b.cs off x) fun cs => K (hpSet hp slot (.box b.s cs)) n) (K hp n)) (obBX o)) (hp slot)
noncomputable def putObj {ρ : Type} (slot : Nat) (o : Ob) (H : List Ob) (hp : HP) (n : Nat) (K : HP → Nat → Option ρ) : Option ρ :=
  cond (Nat.blt slot n) (K (hpSet hp slot o) n) (cond (Nat.beq slot n) (forceN (Nat.succ n) fun m => K (hpSet hp slot o) m) (K (Hp (Wr.put H (.obj slot o))) (Wr.put H (.obj slot o)).length))
noncomputable def putN {ρ : Type} (w : Wr) (H : List Ob) (hp : HP) (n : Nat) (K : HP → Nat → Option ρ) : Option ρ :=
  @Wr.rec (fun _ => List Ob → HP → Nat → (HP → Nat → Option ρ) → Option ρ) (fun slot off x _ hp n K => putBox slot off x hp n K) (fun slot o H hp n K => putObj slot o H hp n K) (fun H' _ _ _ K => K (Hp H') H'.length) w H hp n K
theorem putN_eq {ρ : Type} (w : Wr) (H : List Ob) (K : HP → Nat → Option ρ) : putN w H (Hp H) H.length K = K (Hp (w.put H)) (w.put H).length := by
  cases w with
  | box slot off x =>
    show putBox slot off x (Hp H) H.length K = _
    unfold putBox
    show @Option.rec Ob (fun _ => Option ρ) _ _ (H[slot]?) = _
    cases hs : H[slot]? with
    | none =>
      have e : Wr.put H (.box slot off x) = H := by simp only [Wr.put, hs]
      rw [e]
    | some ob =>
      cases ob with
      | box s cs =>
        show cond (Nat.ble (Nat.add off x.length) cs.length) (spineK (splice cs off x) fun cs => K (hpSet (Hp H) slot (.box s cs)) H.length) (K (Hp H) H.length) = _
        rw [ble_if, spineK_eq]
        by_cases h : off + x.length ≤ cs.length
        · have hl : slot < H.length := by
            rcases Nat.lt_or_ge slot H.length with h | h
            · exact h
            · rw [List.getElem?_eq_none h] at hs; cases hs
          have e : Wr.put H (.box slot off x) = H.set slot (.box s (splice cs off x)) := by simp only [Wr.put, hs, if_pos h]
          rw [if_pos (show Nat.add off x.length ≤ cs.length from h), hpSet_set hl, e, List.length_set]
        · have e : Wr.put H (.box slot off x) = H := by simp only [Wr.put, hs, if_neg h]
          rw [if_neg (show ¬ Nat.add off x.length ≤ cs.length from h), e]
      | _ =>
        have e : Wr.put H (.box slot off x) = H := by simp only [Wr.put, hs]
        rw [e]
        rfl
  | obj slot o =>
    show putObj slot o H (Hp H) H.length K = _
    unfold putObj
    cases hb : Nat.blt slot H.length with
    | true =>
      have := blt_iff.1 hb
      simp only [cond_true, Wr.put, if_pos this, hpSet_set this, List.length_set]
    | false =>
      have hn : ¬ slot < H.length := fun h => by rw [blt_iff.2 h] at hb; cases hb
      simp only [cond_false]
      cases hc : Nat.beq slot H.length with
      | true =>
        have := Nat.eq_of_beq_eq_true hc
        subst this
        simp only [cond_true, forceN_eq, Wr.put, if_neg hn, hpSet_add, Nat.sub_self, List.replicate_zero, List.nil_append, List.length_append, List.length_cons, List.length_nil]
      | false => rfl
  | heap H' => rfl
noncomputable def putsN {ρ : Type} (ws : List Wr) : List Ob → HP → Nat → (List Ob → HP → Nat → Option ρ) → Option ρ :=
  @List.rec Wr (fun _ => List Ob → HP → Nat → (List Ob → HP → Nat → Option ρ) → Option ρ) (fun H hp n K => K H hp n) (fun w _ ih H hp n K => putN w H hp n fun hp n => ih (Wr.put H w) hp n K) ws
theorem putsN_eq {ρ : Type} (ws : List Wr) : ∀ (H : List Ob) (K : List Ob → HP → Nat → Option ρ), putsN ws H (Hp H) H.length K = K (puts H ws) (Hp (puts H ws)) (puts H ws).length := by
  induction ws with
  | nil => intro H K; rfl
  | cons w ws ih => intro H K; exact (putN_eq w H _).trans (ih (Wr.put H w) K)

/-- The operations, by their constructors. -/
abbrev OpD := ∀ ρ : Type, Env → ON → HP → Nat → (Operand → Array Operand → Option ρ) → (OutN → Option ρ) → Option ρ
def zeroC (P : Program) (t : TypeId) : Option (List C) := (zeroCells P t).map fun z => z.map fun v => .p (.v v)
noncomputable def nNo : OpD := fun _ _ _ _ _ _ _ => none
noncomputable def nMove (x : Operand) : OpD := fun _ _ opd _ nb _ K => ob (opd x) fun v => K ⟨v, [], [], nb⟩
noncomputable def nPick (c a b : Operand) : OpD := fun _ _ opd _ nb _ K => ob (opd c) fun cv => ob (opd a) fun av => ob (opd b) fun bv => ob cv.bl fun x => cond x (K ⟨av, [], [], nb⟩) (K ⟨bv, [], [], nb⟩)
noncomputable def nAlloc (t : TypeId) : OpD := fun _ E _ _ nb _ K => ob (szOf E.P t) fun s => ob (zeroC E.P t) fun z => K ⟨.bp nb 0, [.obj nb (.box s z)], [], nb + 1⟩
noncomputable def nBox (_ : TypeId) (x : Operand) : OpD := fun _ _ opd _ nb _ K => hBox (avO opd) nb (avK K) x
noncomputable def nBuild (t : TypeId) (ps : Array (Nat × Operand)) : OpD := fun _ E opd _ nb _ K => hBuild E (avO opd) nb (avK K) t ps
noncomputable def nBuildSlice (t : TypeId) (len : Nat) (ps : Array (Nat × Operand)) : OpD := fun _ E opd hp nb _ K => hBuildSlice E (avO opd) hp nb (avK K) t len ps
noncomputable def nLoad (t : TypeId) (a : Operand) : OpD := fun ρ E opd hp nb _ K => ob (opd a) fun v => ob (szOf E.P t) fun n => ob (aggT E.P t) fun agg => loadN v ρ E hp t n agg fun x rd => K ⟨svN x, [], rd, nb⟩
noncomputable def nStore (t : TypeId) (a x : Operand) : OpD := fun ρ E opd hp nb _ K => ob (opd a) fun v => ob (opd x) fun u => ob u.sv fun y => storeN v ρ E hp t y fun wr rd => K ⟨.tup [], wr, rd, nb⟩
noncomputable def nnTab : NV → Bool := @NV.rec (fun _ => Bool) (fun _ _ => false) (fun _ => false) (fun _ => false) (fun _ _ => true) (fun _ _ _ => true) (fun _ _ => true) (fun _ _ => true) (fun _ _ _ => false) (fun _ _ _ => false) notNil (fun _ => false) (fun _ => false) (fun _ => false) (fun v => match v with | .s (.one c) => notNil c | _ => false)
noncomputable def nNil (x : Operand) : OpD := fun _ _ opd _ nb _ K => ob (opd x) fun v => cond (nnTab v) (K ⟨v, [], [], nb⟩) none
noncomputable def nBin (op : BinOp) (t : TypeId) (x y : Operand) (_ : TypeId) : OpD := fun _ E opd _ nb _ K => ob (opd x) fun v => ob (opd y) fun u => binN E.P op t v u fun r => K ⟨r, [], [], nb⟩
noncomputable def nUn (op : UnOp) (_ : TypeId) (x : Operand) : OpD := fun _ _ opd _ nb _ K => ob (opd x) fun v => unAny op v.av fun r => K ⟨avN r, [], [], nb⟩
noncomputable def nConv (src dst : TypeId) (x : Operand) : OpD := fun _ E opd _ nb _ K => ob (opd x) fun v => convV E nb src dst v.av (avK K)
noncomputable def nMakeFunc (fn : Fn) (first captured : Array Operand) : OpD := fun _ _ opd _ nb _ K => match fn with | .func f => hMakeFunc (avO opd) nb (avK K) f first captured | _ => none
noncomputable def nMakeSlice (t : TypeId) (l c : Operand) : OpD := fun _ E opd _ nb _ K => hMakeSlice E (avO opd) nb (avK K) t l c
noncomputable def nSlice (t : TypeId) (x : Operand) (lo hi mx : Option Operand) : OpD := fun _ E opd hp nb _ K => hSlice E (avO opd) hp nb (avK K) t x lo hi mx
noncomputable def nFieldAddr (t : TypeId) (x : Operand) (f : Nat) : OpD := fun _ E opd _ nb _ K => ob (opd x) fun v => ob (fieldOff E.P t f) fun o => shiftN v o fun r => K ⟨r, [], [], nb⟩
noncomputable def nField (t : TypeId) (x : Operand) (f : Nat) : OpD := fun _ E opd _ nb _ K => ob (opd x) fun v => ob (fieldInf E.P t f) fun i => ob (partN v i.off i.n i.agg) fun r => K ⟨svN r, [], [], nb⟩
noncomputable def NV.nt : NV → Option Int := @NV.rec (fun _ => Option Int) (fun _ n => some n) (fun _ => none) (fun _ => none) (fun _ _ => none) (fun _ _ _ => none) (fun _ _ => none) (fun _ _ => none) (fun _ _ _ => none) (fun _ _ _ => none)
  (fun c => match c with | .p (.v (.int _ n)) => some n | _ => none) (fun _ => none) (fun _ => none) (fun _ => none) (fun v => match v with | .s (.one (.p (.v (.int _ n)))) => some n | _ => none)
noncomputable def nIndexAddr (t : TypeId) (x i : Operand) : OpD := fun ρ E opd hp nb _ K => ob (opd x) fun v => ob (opd i) fun u => ob u.nt fun n => indexN v ρ E hp t n fun r rd => K ⟨r, [], rd, nb⟩
noncomputable def nIndex (t : TypeId) (x i : Operand) : OpD := fun _ E opd _ nb _ K => hIndex E (avO opd) nb (avK K) t x i
noncomputable def exTab : NV → Nat → Option SV := @NV.rec (fun _ => Nat → Option SV) (fun _ _ _ => none) (fun _ _ => none) (fun _ _ => none) (fun _ _ _ => none) (fun _ _ _ _ => none) (fun _ _ _ => none) (fun _ _ _ => none) (fun _ _ _ _ => none) (fun _ _ _ _ => none)
  (fun _ _ => none) (fun l i => nthR l i) (fun _ _ => none) (fun _ _ => none) (fun v i => match v with | .tup l => l[i]? | _ => none)
noncomputable def nExtract (t : Operand) (i : Nat) : OpD := fun _ _ opd _ nb _ K => ob (opd t) fun v => ob (exTab v i) fun x => K ⟨svN x, [], [], nb⟩
def isLen : Builtin → Bool | .len => true | _ => false
def isSlT (d : Option TypeDesc) : Bool := match d with | some (.slice _) => true | _ => false
noncomputable def obObj : Ob → Bool := @Ob.rec (fun _ => Bool) false false (fun _ _ => true) (fun _ _ _ => true)
abbrev LnD := ∀ ρ : Type, Env → HP → Nat → TypeId → (OutN → Option ρ) → Option ρ
noncomputable def lnGen (v : NV) : LnD := fun _ E hp nb t K => builtinVQ E hp nb .len [t] [v.av] (avK K)
noncomputable def lnOwn (slot off len : Nat) : LnD := fun _ E hp nb t K => cond (isSlT (E.P.underlying t)) (ob (hp slot) fun o => cond (obObj o) (K ⟨.int .i64 len, [], [.obj slot], nb⟩) none) (builtinVQ E hp nb .len [t] [(NV.own slot off len).av] (avK K))
noncomputable def lnSl (s : Nat) (nn : Bool) (es : List (List PC)) : LnD := fun _ E hp nb t K => cond (isSlT (E.P.underlying t)) (K ⟨.int .i64 es.length, [], [], nb⟩) (builtinVQ E hp nb .len [t] [(NV.sl s nn es).av] (avK K))
noncomputable def lenTab : NV → LnD := @NV.rec (fun _ => LnD) (fun k n => lnGen (.int k n)) (fun b => lnGen (.bool b)) (fun s => lnGen (.str s)) (fun s o => lnGen (.bp s o)) (fun s i o => lnGen (.ap s i o)) (fun e o => lnGen (.rp e o)) (fun g o => lnGen (.gp g o)) lnOwn lnSl
  (fun c => lnGen (.one c)) (fun l => lnGen (.tup l)) (fun l => lnGen (.pagg l)) (fun l => lnGen (.agg l)) (fun v => lnGen (.other v))
noncomputable def nBuiltin (b : Builtin) (args : Array Operand) (ts : Array TypeId) : OpD := fun ρ E opd hp nb _ K =>
  cond (isLen b) (@Option.rec Operand (fun _ => Option ρ) (hCall E (avO opd) hp nb (avK K) b args ts) (fun x => @Option.rec TypeId (fun _ => Option ρ) (hCall E (avO opd) hp nb (avK K) b args ts) (fun t => ob (opd x) fun v => lenTab v ρ E hp nb t K) (onlyR ts.toList)) (onlyR args.toList))
    (hCall E (avO opd) hp nb (avK K) b args ts)
noncomputable def calleeTab : Callee → Array Operand → Array TypeId → OpD := @Callee.rec (fun _ => Array Operand → Array TypeId → OpD) (fun x args _ _ _ _ _ _ cl _ => cl x args) (fun _ _ _ _ => nNo) nBuiltin
noncomputable def nCall (c : Call) : OpD := calleeTab c.callee c.args c.argTypes
noncomputable def opTab : Op → OpD := @Op.rec (fun _ => OpD) nMove nMove nPick nAlloc nBox nBuild nBuildSlice (fun _ _ _ _ => nNo) nLoad nStore (fun _ => nNo) (fun _ => nNo) nNil nBin nUn nConv (fun _ _ => nNo) (fun _ _ => nNo) nMakeFunc (fun _ _ => nNo) (fun _ _ => nNo) nMakeSlice nSlice nFieldAddr nField nIndexAddr nIndex
  (fun _ _ _ _ => nNo) (fun _ _ _ _ => nNo) (fun _ _ _ => nNo) (fun _ _ _ _ => nNo) (fun _ _ => nNo) (fun _ _ => nNo) (fun _ => nNo) (fun _ _ _ _ => nNo) nExtract nCall (fun _ => nNo) (fun _ => nNo) (fun _ => nNo) (fun _ _ => nNo) (fun _ _ _ => nNo) (fun _ _ => nNo)

section
variable {ρ : Type} (E : Env) {opd : ON} {f : Operand → Option AV} (hf : OkO opd f) (H : List Ob) (nb : Nat) (cl : Operand → Array Operand → Option ρ) {K' : OutN → Option ρ} {K : Out → Option ρ} (hK : ∀ o, K' o = K o.out)
include hf hK

theorem hCall_eq (b : Builtin) (args : Array Operand) (ts : Array TypeId) : hCall E (avO opd) (Hp H) nb (avK K') b args ts = gCall E f H nb K b args ts := by
  rw [avO_eq hf, avK_eq hK]; rfl
omit hf in
theorem lenTab_eq (v : NV) (t : TypeId) : lenTab v ρ E (Hp H) nb t K' = builtinV E H nb .len [t] [v.av] K := by
  have hg : ∀ v : NV, builtinVQ E (Hp H) nb .len [t] [v.av] (avK K') = builtinV E H nb .len [t] [v.av] K := fun v => by rw [builtinVQ_eq, avK_eq hK]
  cases v with
  | own slot off len =>
    show cond (isSlT (E.P.underlying t)) (ob (Hp H slot) fun o => cond (obObj o) (K' ⟨.int .i64 len, [], [.obj slot], nb⟩) none) _ = _
    rw [hg]
    cases hu : E.P.underlying t with
    | none => rfl
    | some d =>
      cases d with
      | slice e =>
        simp only [isSlT, cond_true, builtinV, NV.av, hu, lenOf, ob_eq, hK]
        show (H[slot]?).bind _ = _
        cases H[slot]? with
        | none => rfl
        | some o => cases o <;> rfl
      | _ => rfl
  | sl s nn es =>
    show cond (isSlT (E.P.underlying t)) (K' ⟨.int .i64 es.length, [], [], nb⟩) _ = _
    rw [hg]
    cases hu : E.P.underlying t with
    | none => rfl
    | some d =>
      cases d with
      | slice e => simp only [isSlT, cond_true, builtinV, NV.av, hu, lenOf, hK]; rfl
      | _ => rfl
  | int k n => exact hg (.int k n)
  | bool b => exact hg (.bool b)
  | str b => exact hg (.str b)
  | bp s o => exact hg (.bp s o)
  | ap s i o => exact hg (.ap s i o)
  | rp e o => exact hg (.rp e o)
  | gp g o => exact hg (.gp g o)
  | one c => exact hg (.one c)
  | tup l => exact hg (.tup l)
  | pagg l => exact hg (.pagg l)
  | agg l => exact hg (.agg l)
  | other v => exact hg (.other v)
omit hf hK in
theorem onlyR_eq {α : Type} {l : List α} {x : α} (h : onlyR l = some x) : l = [x] := by
  cases l with
  | nil => cases h
  | cons a l => cases l with
    | nil => exact congrArg (fun y => [y]) (Option.some.inj h)
    | cons b l => cases h
theorem nBuiltin_eq (b : Builtin) (args : Array Operand) (ts : Array TypeId) : nBuiltin b args ts ρ E opd (Hp H) nb cl K' = gCall E f H nb K b args ts := by
  unfold nBuiltin
  have hc := hCall_eq E hf H nb hK b args ts
  cases hb : isLen b with
  | false => exact hc
  | true =>
    simp only [cond_true]
    cases h1 : onlyR args.toList with
    | none => exact hc
    | some x =>
      cases h2 : onlyR ts.toList with
      | none => exact hc
      | some t =>
        have e1 := onlyR_eq h1
        have e2 := onlyR_eq h2
        have hb' : b = .len := by cases b <;> first | rfl | cases hb
        subst hb'
        show ob (opd x) (fun v => lenTab v ρ E (Hp H) nb t K') = _
        unfold gCall
        rw [e1, e2, ob_opd hf x (fun v => lenTab_eq E H nb hK v t) (F := fun v => builtinV E H nb .len [t] [v] K)]
        rw [List.mapM_cons, List.mapM_nil]
        cases f x <;> rfl

theorem opTab_eq (o : Oper) : (∀ x args ts, o.op ≠ .call ⟨.value x, args, ts⟩) → opTab o.op ρ E opd (Hp H) nb cl K' = aopT E f H nb o K := by
  intro hne
  obtain ⟨dst, op, ty, pos, after, guard⟩ := o
  cases op with
  | move x => exact ob_opd hf x fun v => hK _
  | assign x => exact ob_opd hf x fun v => hK _
  | pick c a b =>
    refine ob_opd hf c (F := fun cv => (f a).bind fun av => (f b).bind fun bv => cv.val.bind fun u => match u with
      | .bool x => pickV x av bv fun v => K ⟨v, [], [], nb⟩
      | _ => none) fun cv => ?_
    refine ob_opd hf a (F := fun av => (f b).bind fun bv => cv.av.val.bind fun u => match u with
      | .bool x => pickV x av bv fun v => K ⟨v, [], [], nb⟩
      | _ => none) fun av => ?_
    refine ob_opd hf b (F := fun bv => cv.av.val.bind fun u => match u with
      | .bool x => pickV x av.av bv fun v => K ⟨v, [], [], nb⟩
      | _ => none) fun bv => ?_
    have hp : ∀ x : Bool, cond x (K' ⟨av, [], [], nb⟩) (K' ⟨bv, [], [], nb⟩) = pickV x av.av bv.av fun v => K ⟨v, [], [], nb⟩ := by
      intro x
      rw [hK, hK]
      show cond x (K ⟨av.av, [], [], nb⟩) (K ⟨bv.av, [], [], nb⟩) = _
      generalize av.av = a
      generalize bv.av = b
      unfold pickV
      split <;> cases x <;> rfl
    cases cv with
    | bool x => exact hp x
    | one c => cases c with
      | p y => cases y with
        | v u => cases u <;> first | rfl | exact hp _
        | _ => rfl
      | _ => rfl
    | other v => cases v with
      | s y => cases y with
        | one c => cases c with
          | p y => cases y with
            | v u => cases u <;> first | rfl | exact hp _
            | _ => rfl
          | _ => rfl
        | _ => rfl
      | _ => rfl
    | _ => rfl
  | alloc t =>
    show ob (szOf E.P t) (fun s => ob (zeroC E.P t) fun z => K' ⟨.bp nb 0, [.obj nb (.box s z)], [], nb + 1⟩) = gAlloc E nb K t
    unfold gAlloc zeroC
    simp only [ob_eq, hK]
    refine congrArg (Option.bind _) (funext fun s => ?_)
    cases zeroCells E.P t <;> rfl
  | box t x => show hBox (avO opd) nb (avK K') x = _; rw [avO_eq hf, avK_eq hK]; rfl
  | build t ps => show hBuild E (avO opd) nb (avK K') t ps = _; rw [avO_eq hf, avK_eq hK]; rfl
  | buildSlice t len ps =>
    show hBuildSlice E (avO opd) (Hp H) nb (avK K') t len ps = gBuildSlice E f H nb K t len ps
    rw [avO_eq hf, avK_eq hK]
    unfold hBuildSlice gBuildSlice
    simp only [toPsQ_eq]
  | load t a =>
    show ob (opd a) (fun v => ob (szOf E.P t) fun n => ob (aggT E.P t) fun agg => loadN v ρ E (Hp H) t n agg fun x rd => K' ⟨svN x, [], rd, nb⟩) = gLoad E f H nb K t a
    refine ob_opd hf a fun v => ?_
    rw [loadN_eq]
    have e : (fun x rd => K' ⟨svN x, [], rd, nb⟩) = fun x rd => K ⟨.s x, [], rd, nb⟩ := by
      funext x rd; rw [hK]; simp only [OutN.out, svN_av]
    rw [e]; rfl
  | store t a x =>
    show ob (opd a) (fun v => ob (opd x) fun u => ob u.sv fun y => storeN v ρ E (Hp H) t y fun wr rd => K' ⟨.tup [], wr, rd, nb⟩) = gStore E f H nb K t a x
    refine ob_opd hf a (F := fun v => (f x).bind fun u => u.sv.bind fun y => storeV E H t v y fun wr rd => K ⟨.tup [], wr, rd, nb⟩) fun v => ?_
    refine ob_opd hf x (F := fun u => u.sv.bind fun y => storeV E H t v.av y fun wr rd => K ⟨.tup [], wr, rd, nb⟩) fun u => ?_
    rw [ob_eq, NV.sv_eq]
    refine congrArg (Option.bind _) (funext fun y => ?_)
    rw [storeN_eq]
    have e : (fun wr rd => K' ⟨.tup [], wr, rd, nb⟩) = fun wr rd => K ⟨.tup [], wr, rd, nb⟩ := by
      funext x rd; rw [hK]; rfl
    rw [e]
  | nilCheck x =>
    show ob (opd x) (fun v => cond (nnTab v) (K' ⟨v, [], [], nb⟩) none) = gNilCheck f nb K x
    refine ob_opd hf x fun v => ?_
    rw [hK]
    have hc : ∀ (c : C) (y : Option ρ), cond (notNil c) y none = if notNil c then y else none := fun c y => by cases notNil c <;> rfl
    cases v with
    | one c => exact hc c _
    | other v => cases v with
      | s x => cases x with
        | one c => exact hc c _
        | _ => rfl
      | _ => rfl
    | _ => rfl
  | binOp op t x y u =>
    show ob (opd x) (fun v => ob (opd y) fun u => binN E.P op t v u fun r => K' ⟨r, [], [], nb⟩) = gBinOp E f nb K op t x y
    refine ob_opd hf x (F := fun v => (f y).bind fun u => binT E.P op t v u fun r => K ⟨r, [], [], nb⟩) fun v => ?_
    refine ob_opd hf y (F := fun u => binT E.P op t v.av u fun r => K ⟨r, [], [], nb⟩) fun u => ?_
    rw [binT_eq]
    exact binN_eq E.P op t v u _ _ fun r => hK _
  | unOp op t x =>
    show ob (opd x) (fun v => unAny op v.av fun r => K' ⟨avN r, [], [], nb⟩) = gUnOp f nb K op x
    refine ob_opd hf x fun v => ?_
    have e : (fun r => K' ⟨avN r, [], [], nb⟩) = fun r => K ⟨r, [], [], nb⟩ := by funext r; rw [hK]; simp only [OutN.out, avN_av]
    rw [e]
  | convert src dst x =>
    show ob (opd x) (fun v => convV E nb src dst v.av (avK K')) = gConvert E f nb K src dst x
    rw [avK_eq hK]
    exact ob_opd hf x fun v => rfl
  | makeFunc fn first captured =>
    show (match fn with | .func g => hMakeFunc (avO opd) nb (avK K') g first captured | _ => none) = _
    rw [avO_eq hf, avK_eq hK]
    cases fn <;> rfl
  | makeSlice t l c => show hMakeSlice E (avO opd) nb (avK K') t l c = _; rw [avO_eq hf, avK_eq hK]; rfl
  | slice t x lo hi mx => show hSlice E (avO opd) (Hp H) nb (avK K') t x lo hi mx = _; rw [avO_eq hf, avK_eq hK]; rfl
  | fieldAddr t x g =>
    show ob (opd x) (fun v => ob (fieldOff E.P t g) fun o => shiftN v o fun r => K' ⟨r, [], [], nb⟩) = gFieldAddr E f nb K t x g
    refine ob_opd hf x fun v => ?_
    have e : ∀ o, shiftN v o (fun r => K' ⟨r, [], [], nb⟩) = shiftV v.av o fun c => K ⟨.s (.one c), [], [], nb⟩ := fun o => shiftN_eq v o _ _ fun r c hr => by rw [hK]; simp only [OutN.out, hr]
    simp only [e, ob_eq]
    unfold fieldOff
    have hn : ∀ (x : Option Nat), x.bind (fun _ => (none : Option ρ)) = none := fun x => by cases x <;> rfl
    generalize hv : v.av = a
    cases a with
    | s z =>
      cases z with
      | one c =>
        simp only [shiftV, fieldAt]
        cases E.P.underlying t with
        | none => rfl
        | some d =>
          cases d with
          | struct fs =>
            dsimp only
            cases fs[g]? with
            | none => rfl
            | some fd =>
              simp only [Option.bind_some]
              cases szOf E.P fd.type with
              | none => rfl
              | some s =>
                simp only [Option.bind_some]
                by_cases h0 : s = 0
                · rw [if_pos h0, if_pos h0]; rfl
                · rw [if_neg h0, if_neg h0]; rfl
          | _ => rfl
      | _ => simp only [shiftV, hn]
    | _ => simp only [shiftV, hn]
  | field t x g =>
    show ob (opd x) (fun v => ob (fieldInf E.P t g) fun i => ob (partN v i.off i.n i.agg) fun r => K' ⟨svN r, [], [], nb⟩) = gField E f nb K t x g
    refine ob_opd hf x fun v => ?_
    have e : (fun r => K' ⟨svN r, [], [], nb⟩) = fun r => K ⟨.s r, [], [], nb⟩ := by funext r; rw [hK]; simp only [OutN.out, svN_av]
    simp only [e, ob_eq, partN_eq, fieldInf]
    cases E.P.underlying t with
    | none => rfl
    | some d =>
      cases d with
      | struct fs =>
        dsimp only
        cases fs[g]? with
        | none => rfl
        | some fd =>
          simp only [Option.bind_some, partOf]
          cases szOf E.P fd.type with
          | none => rfl
          | some s =>
            simp only [Option.bind_some]
            cases aggT E.P fd.type with
            | none => rfl
            | some agg =>
              simp only [Option.bind_some]
              rfl
      | _ => rfl
  | indexAddr t x i =>
    show ob (opd x) (fun v => ob (opd i) fun u => ob u.nt fun n => indexN v ρ E (Hp H) t n fun r rd => K' ⟨r, [], rd, nb⟩) = gIndexAddr E f H nb K t x i
    have e : ∀ v n, (indexN v ρ E (Hp H) t n fun r rd => K' ⟨r, [], rd, nb⟩) = indexV E H t v.av n fun c rd => K ⟨.s (.one c), [], rd, nb⟩ := fun v n => indexN_eq E H t v n _ _ fun r c rd hr => by rw [hK]; simp only [OutN.out, hr]
    simp only [e]
    unfold gIndexAddr
    refine ob_opd hf x (F := fun v => (f i).bind fun u => u.val.bind fun iv => (match v, iv with
      | .s (.one c), .int _ n => indexAt E H t c n fun r rd => K ⟨.s (.one r), [], rd, nb⟩
      | _, _ => none)) fun v => ?_
    refine ob_opd hf i (F := fun u => u.val.bind fun iv => (match v.av, iv with
      | .s (.one c), .int _ n => indexAt E H t c n fun r rd => K ⟨.s (.one r), [], rd, nb⟩
      | _, _ => none)) fun u => ?_
    have h1 : ∀ (a : AV) (k : IntKind) (n : Int), indexV E H t a n (fun c rd => K ⟨.s (.one c), [], rd, nb⟩) = (match a, Value.int k n with
      | .s (.one c), .int _ n => indexAt E H t c n fun r rd => K ⟨.s (.one r), [], rd, nb⟩
      | _, _ => none) := fun a k n => by
        cases a with
        | s z => cases z <;> rfl
        | _ => rfl
    have h2 : ∀ (a : AV) (w : Value), (∀ k n, w ≠ .int k n) → (match a, w with
      | .s (.one c), .int _ n => indexAt E H t c n fun r rd => K ⟨.s (.one r), [], rd, nb⟩
      | _, _ => none) = none := fun a w hw => by
        split
        · exact absurd rfl (hw _ _)
        · rfl
    have hval : ∀ w : Value, ob (match w with | .int _ n => some n | _ => none) (fun n => indexV E H t v.av n fun c rd => K ⟨.s (.one c), [], rd, nb⟩) = (match v.av, w with
      | .s (.one c), .int _ n => indexAt E H t c n fun r rd => K ⟨.s (.one r), [], rd, nb⟩
      | _, _ => none) := fun w => by
        cases w with
        | int k n => exact h1 v.av k n
        | _ => exact (h2 v.av _ fun k n hh => by cases hh).symm
    cases u with
    | int k n => exact h1 v.av k n
    | one c => cases c with
      | p y => cases y with
        | v w => have := hval w; cases w <;> exact this
        | _ => rfl
      | _ => rfl
    | other a => cases a with
      | s y => cases y with
        | one c => cases c with
          | p y => cases y with
            | v w => have := hval w; cases w <;> exact this
            | _ => rfl
          | _ => rfl
        | _ => rfl
      | _ => rfl
    | bool b => exact (h2 v.av _ fun k n hh => by cases hh).symm
    | str b => exact (h2 v.av _ fun k n hh => by cases hh).symm
    | gp g o => exact (h2 v.av _ fun k n hh => by cases hh).symm
    | _ => rfl
  | index t x i => show hIndex E (avO opd) nb (avK K') t x i = _; rw [avO_eq hf, avK_eq hK]; rfl
  | extract t i =>
    show ob (opd t) (fun v => ob (exTab v i) fun x => K' ⟨svN x, [], [], nb⟩) = gExtract f nb K t i
    have e : (fun r => K' ⟨svN r, [], [], nb⟩) = fun r => K ⟨.s r, [], [], nb⟩ := by funext r; rw [hK]; simp only [OutN.out, svN_av]
    refine ob_opd hf t fun v => ?_
    rw [e]
    cases v with
    | tup l => show ob (nthR l i) _ = _; rw [ob_eq, nthR_eq]; rfl
    | other v => cases v with
      | tup l => show ob l[i]? _ = _; rw [ob_eq]; rfl
      | _ => rfl
    | _ => rfl
  | call c =>
    obtain ⟨callee, args, ts⟩ := c
    cases callee with
    | value x => exact absurd rfl (hne x args ts)
    | invoke r m => rfl
    | builtin b => exact nBuiltin_eq E hf H nb cl hK b args ts
  | _ => rfl
end
end Go.Ev

namespace Go.Ev
open Go
set_option maxRecDepth 100000

def outCQ (hp : HP) (used : List Nat) : (k : RK) → C → Option (k.T × List Nat)
  | .rd q, .p x => (q.dec x).map fun t => (t, used)
  | .fr s, .own slot off len => (match hp slot with
    | some (.arr s' false es) => if s = s' ∧ off + len ≤ es.length ∧ !used.contains slot then some ((es.drop off).take len, slot :: used) else none
    | _ => none)
  | .fr _, .p (.v (.slice none 0 0)) => some ([], used)
  | .rd (.list s), .own slot off len => (match hp slot with
    | some (.arr s' _ es) => if s = s' ∧ off + len ≤ es.length ∧ !used.contains slot then some ((es.drop off).take len, slot :: used) else none
    | _ => none)
  | _, _ => none
def outCsQ (hp : HP) (used : List Nat) : (ks : List RK) → List C → Option (RTup ks)
  | [], [] => some ()
  | k :: ks, c :: cs => (outCQ hp used k c).bind fun x => (outCsQ hp x.2 ks cs).bind fun t => some (x.1, t)
  | _, _ => none
def expCQ : Nat → HP → C → Option (PC × List Reg)
  | _, _, .p x => some (x, [])
  | 0, _, _ => none
  | n + 1, hp, .own slot off len => (match hp slot with
    | some (.arr s _ es) => if off + len ≤ es.length then some (.sl s false ((es.drop off).take len), [.obj slot]) else none
    | some (.box s cs) => if (off + len) * s ≤ cs.length then (((cs.drop (off * s)).take (len * s)).mapM (expCQ n hp)).bind fun l => some (.sl s false (chunk s len (l.map (·.1))), .obj slot :: (l.map (·.2)).flatten) else none
    | _ => none)
  | _, _, _ => none
def expCsQ (hp : HP) : List C → Option (List PC × List Reg)
  | [] => some ([], [])
  | c :: cs => (expCQ 3 hp c).bind fun x => (expCsQ hp cs).bind fun r => some (x.1 :: r.1, x.2 ++ r.2)
def expSVQ (peek : Bool) (hp : HP) : SV → Option (SV × List Reg)
  | .dead => none
  | .one (.bp slot off) => if peek then (match hp slot with
    | some (.box _ cs) => (pcs cs).bind fun l => some (.one (.rp l off), [.obj slot])
    | _ => none) else none
  | .one (.clo f cs) => if cs.isEmpty then some (.one (.clo f []), []) else none
  | .one c => (expCQ 3 hp c).bind fun x => some (.one (.p x.1), x.2)
  | .pagg l => some (.pagg l, [])
  | .agg cs => (expCsQ hp cs).bind fun x => some (.pagg x.1, x.2)
def expSVsQ (peek : Bool) (hp : HP) : List SV → Option (List SV × List Reg)
  | [] => some ([], [])
  | x :: xs => (expSVQ peek hp x).bind fun y => (expSVsQ peek hp xs).bind fun r => some (y.1 :: r.1, y.2 ++ r.2)
theorem outCQ_eq (H : List Ob) (used : List Nat) (k : RK) (c : C) : outCQ (Hp H) used k c = outC H used k c := by
  cases k with
  | rd q =>
    cases c with
    | own s o l => cases q <;> rfl
    | _ => cases q <;> rfl
  | fr s =>
    cases c with
    | p x => cases x with
      | v u => cases u with
        | slice a l c => cases a <;> cases l <;> cases c <;> rfl
        | _ => rfl
      | _ => rfl
    | _ => rfl
theorem outCsQ_eq (H : List Ob) (ks : List RK) : ∀ (used : List Nat) (cs : List C), outCsQ (Hp H) used ks cs = outCs H used ks cs := by
  induction ks with
  | nil => intro used cs; cases cs <;> rfl
  | cons k ks ih =>
    intro used cs
    cases cs with
    | nil => rfl
    | cons c cs => simp only [outCsQ, outCs, outCQ_eq, ih]
theorem expCQ_eq (H : List Ob) : ∀ (n : Nat) (c : C), expCQ n (Hp H) c = expC n H c := by
  intro n
  induction n with
  | zero => intro c; cases c <;> rfl
  | succ n ih =>
    intro c
    have e : expCQ n (Hp H) = expC n H := funext ih
    cases c with
    | own slot off len => simp only [expCQ, expC, e]; rfl
    | _ => rfl
theorem expCsQ_eq (H : List Ob) (cs : List C) : expCsQ (Hp H) cs = expCs H cs := by
  induction cs with
  | nil => rfl
  | cons c cs ih => simp only [expCsQ, expCs, ih, expCQ_eq]
theorem expSVQ_eq (peek : Bool) (H : List Ob) (x : SV) : expSVQ peek (Hp H) x = expSV peek H x := by
  cases x with
  | one c =>
    cases c with
    | clo f cs => rfl
    | bp s o => rfl
    | _ => simp only [expSVQ, expSV, expCQ_eq]
  | agg cs => simp only [expSVQ, expSV, expCsQ_eq]
  | _ => rfl
theorem expSVsQ_eq (peek : Bool) (H : List Ob) (xs : List SV) : expSVsQ peek (Hp H) xs = expSVs peek H xs := by
  induction xs with
  | nil => rfl
  | cons x xs ih => simp only [expSVsQ, expSVs, ih, expSVQ_eq]

noncomputable def initN (args : List SV) (N : Nat) : TN := fun i => @Option.rec SV (fun _ => Option NV) (cond (Nat.blt i N) (some (.other (.s .dead))) none) (fun x => some (svN x)) (nthR args i)
theorem initN_ag (fn : Func) (args : List SV) (H : List Ob) : AgN (initSt fn args H).tmps (initN args (lenT fn args)) := by
  intro i
  rw [initT_ag fn args H i]
  unfold initN initT
  rw [nthR_eq, List.getElem?_map]
  cases args[i]? with
  | none =>
    show Option.map NV.av (cond _ _ _) = cond _ _ _
    cases Nat.blt i (lenT fn args) <;> rfl
  | some x => exact congrArg some (svN_av x)

/-- The results. -/
noncomputable def resN {ρ : Type} (E : Env) (t : TN) (hp : HP) : List ResultVar → List TypeId → (List SV → Option ρ) → Option ρ
  | [], [], K => K []
  | .tmp i :: rest, ty :: tys, K => ob (t i) fun v => ob v.sv fun x => cond (x.fits E.P ty) (resN E t hp rest tys fun r => K (x :: r)) none
  | .cell a i :: rest, ty :: tys, K => ob (t a) fun v => ob (szOf E.P i) fun n => ob (aggT E.P i) fun agg => loadN v ρ E hp i n agg fun x _ => cond (x.fits E.P ty) (resN E t hp rest tys fun r => K (x :: r)) none
  | _, _, _ => none
theorem resN_eq {ρ : Type} (E : Env) {l : List AV} {t : TN} (h : AgN l t) (H : List Ob) (rs : List ResultVar) : ∀ (tys : List TypeId) (K : List SV → Option ρ), resN E t (Hp H) rs tys K = resVals E ⟨l, H⟩ rs tys K := by
  induction rs with
  | nil => intro tys K; cases tys <;> rfl
  | cons r rs ih =>
    intro tys K
    have hc : ∀ (b : Bool) (x : Option ρ), cond b x none = if b = true then x else none := fun b x => by cases b <;> rfl
    cases tys with
    | nil => cases r <;> rfl
    | cons ty tys =>
      cases r with
      | tmp i =>
        simp only [resN, resVals, ← h i, ob_eq, Option.bind_map]
        refine congrArg (Option.bind _) (funext fun v => ?_)
        simp only [Function.comp, NV.sv_eq, ih, hc]
      | cell a i =>
        simp only [resN, resVals, ← h a, ob_eq, Option.bind_map]
        refine congrArg (Option.bind _) (funext fun v => ?_)
        have := loadN_eq E H i v (fun x (_ : List Reg) => cond (x.fits E.P ty) (resN E t (Hp H) rs tys fun r => K (x :: r)) none)
        simp only [ob_eq] at this
        rw [this]
        simp only [Function.comp, ih, hc]
        unfold loadV
        cases v.av with
        | s y => cases y <;> rfl
        | _ => rfl

/-! The same, each behind the other. -/
noncomputable def expCK {ρ : Type} (n : Nat) (hp : HP) (c : C) (K : PC → List Reg → Option ρ) : Option ρ := match c with
  | .p x => K x []
  | .own slot off len => (match hp slot with
    | some (.arr s _ es) => cond (Nat.ble (off + len) es.length) (K (.sl s false ((es.drop off).take len)) [.obj slot]) none
    | _ => ob (expCQ n hp c) fun x => K x.1 x.2)
  | _ => ob (expCQ n hp c) fun x => K x.1 x.2
noncomputable def expCsK {ρ : Type} (hp : HP) : List C → (List PC → List Reg → Option ρ) → Option ρ
  | [], K => K [] []
  | c :: cs, K => expCK 3 hp c fun x rd => expCsK hp cs fun l rd' => K (x :: l) (rd ++ rd')
noncomputable def expSVK {ρ : Type} (peek : Bool) (hp : HP) (x : SV) (K : SV → List Reg → Option ρ) : Option ρ := match x with
  | .pagg l => K (.pagg l) []
  | .agg cs => expCsK hp cs fun l rd => K (.pagg l) rd
  | .one (.p x) => K (.one (.p x)) []
  | .one (.own slot off len) => expCK 3 hp (.own slot off len) fun x rd => K (.one (.p x)) rd
  | x => ob (expSVQ peek hp x) fun y => K y.1 y.2
noncomputable def expSVsK {ρ : Type} (peek : Bool) (hp : HP) : List SV → (List SV → List Reg → Option ρ) → Option ρ
  | [], K => K [] []
  | x :: xs, K => expSVK peek hp x fun y rd => expSVsK peek hp xs fun l rd' => K (y :: l) (rd ++ rd')
theorem expCK_eq {ρ : Type} (n : Nat) (H : List Ob) (c : C) (K : PC → List Reg → Option ρ) : expCK (n + 1) (Hp H) c K = (expC (n + 1) H c).bind fun x => K x.1 x.2 := by
  have hq : ∀ c, expCQ (n + 1) (Hp H) c = expC (n + 1) H c := expCQ_eq H (n + 1)
  unfold expCK
  split
  · rfl
  · next slot off len =>
    split
    · next s fz es he =>
      have he' : H[slot]? = some (.arr s fz es) := he
      simp only [expC, he']
      rw [ble_if]
      split <;> rfl
    · rw [ob_eq, hq]
  · rw [ob_eq, hq]
theorem expCsK_eq {ρ : Type} (H : List Ob) : ∀ (cs : List C) (K : List PC → List Reg → Option ρ), expCsK (Hp H) cs K = (expCs H cs).bind fun x => K x.1 x.2
  | [], _ => rfl
  | c :: cs, K => by
    simp only [expCsK, expCs, expCK_eq, expCsK_eq H cs]
    cases expC 3 H c with
    | none => rfl
    | some x =>
      simp only [Option.bind_some]
      cases expCs H cs <;> rfl
theorem expSVK_eq {ρ : Type} (peek : Bool) (H : List Ob) (x : SV) (K : SV → List Reg → Option ρ) : expSVK peek (Hp H) x K = (expSV peek H x).bind fun y => K y.1 y.2 := by
  unfold expSVK
  split
  · rfl
  · next cs =>
    simp only [expCsK_eq, expSV]
    cases expCs H cs <;> rfl
  · rfl
  · next slot off len =>
    rw [expCK_eq]
    show _ = ((expC 3 H (.own slot off len)).bind fun x => some (SV.one (C.p x.1), x.2)).bind _
    cases expC 3 H (.own slot off len) <;> rfl
  · rw [ob_eq, expSVQ_eq]
theorem expSVsK_eq {ρ : Type} (peek : Bool) (H : List Ob) : ∀ (xs : List SV) (K : List SV → List Reg → Option ρ), expSVsK peek (Hp H) xs K = (expSVs peek H xs).bind fun y => K y.1 y.2
  | [], _ => rfl
  | x :: xs, K => by
    simp only [expSVsK, expSVs, expSVK_eq, expSVsK_eq peek H xs]
    cases expSV peek H x with
    | none => rfl
    | some y =>
      simp only [Option.bind_some]
      cases expSVs peek H xs <;> rfl
def shCQ : Nat → HP → C → Bool
  | _, _, .p _ => true
  | 0, _, _ => false
  | n + 1, hp, .own slot _ _ => (match hp slot with
    | some (.arr _ _ _) => true
    | some (.box _ cs) => cs.all (shCQ n hp)
    | _ => false)
  | _, _, _ => false
def shSVQ (peek : Bool) (hp : HP) : SV → Bool
  | .dead => false
  | .one (.bp slot _) => peek && (match hp slot with | some (.box _ cs) => (pcs cs).isSome | _ => false)
  | .one (.clo _ cs) => cs.isEmpty
  | .one c => shCQ 3 hp c
  | .pagg _ => true
  | .agg cs => cs.all (shCQ 3 hp)
theorem shCQ_eq (H : List Ob) : ∀ (n : Nat) (c : C), shCQ n (Hp H) c = shC n H c
  | 0, c => by cases c <;> rfl
  | n + 1, c => by
    cases c with
    | own slot off len =>
      simp only [shCQ, shC, Hp]
      cases H[slot]? with
      | none => rfl
      | some o => cases o with
        | box s cs => show cs.all (shCQ n (Hp H)) = _; rw [show shCQ n (Hp H) = shC n H from funext (shCQ_eq H n)]
        | _ => rfl
    | _ => rfl
theorem shSVQ_eq (peek : Bool) (H : List Ob) (x : SV) : shSVQ peek (Hp H) x = shSV peek H x := by
  cases x with
  | one c => cases c <;> first | rfl | exact shCQ_eq H 3 _
  | agg cs => simp only [shSVQ, shSV, show shCQ 3 (Hp H) = shC 3 H from funext (shCQ_eq H 3)]
  | _ => rfl

structure HQ where
  hp : HP
  n : Nat
noncomputable def svsN (opd : ON) (l : List Operand) : Option (List SV) := @List.rec Operand (fun _ => Option (List SV)) (some []) (fun x _ ih => ob (opd x) fun v => ob v.sv fun s => ob ih fun r => some (s :: r)) l
theorem svsN_eq {opd : ON} {f : Operand → Option AV} (hf : OkO opd f) (l : List Operand) : svsN opd l = l.mapM fun y => (f y).bind AV.sv := by
  induction l with
  | nil => rfl
  | cons x l ih =>
    show ob (opd x) (fun v => ob v.sv fun s => ob (svsN opd l) fun r => some (s :: r)) = _
    rw [ih, List.mapM_cons, ← hf x, ob_eq]
    cases opd x with
    | none => rfl
    | some v =>
      simp only [Option.bind_some, Option.map_some, ob_eq, NV.sv_eq]
      cases v.av.sv <;> rfl

section
variable {ρ : Type} (E : Env)
variable (call : (f : FuncId) → List SV → Option (RTup (rks E f))) (body : Nat → Code → TN → List Ob → HP → Nat → (X → TN → List Ob → HP → Nat → Option ρ) → Option ρ)

/-- A call that is answered out of the values. -/
noncomputable def ansN (_ : HP) (nb : Nat) (f : FuncId) (as : List SV) (rd : List Reg) (K : OutN → Option HQ → Option ρ) : Option ρ :=
  ob (call f as) fun r => cond (natPre E f as) (cond (rd.isEmpty || flatR _ r) (ob ((E.P.funcs[f]?).bind fun fn => groupC E.P fn.resultTypes.toList (inCs nb (rks E f) r).1) fun vs => K ⟨avN (resVal vs), (inCs nb (rks E f) r).2.1, rd, (inCs nb (rks E f) r).2.2⟩ none) none) none
noncomputable def inlN (H : List Ob) (hp : HP) (nb : Nat) (f : FuncId) (args : List SV) (K : OutN → Option HQ → Option ρ) : Option ρ :=
  ob (E.P.funcs[f]?) fun fn => ob fn.body fun c => body (lenT fn args) c (initN args (lenT fn args)) H hp nb fun e t H hp n => match e with
    | .exit _ => none
    | _ => resN E t hp fn.results.toList fn.resultTypes.toList fun vs => K ⟨avN (resVal vs), [.heap H], [.all], n⟩ (some ⟨hp, n⟩)
noncomputable def callN (H : List Ob) (hp : HP) (nb : Nat) (f : FuncId) (args : List SV) (K : OutN → Option HQ → Option ρ) : Option ρ :=
  cond (E.inl f || !(args.all (shSVQ (E.peek f) hp))) (inlN E body H hp nb f args K) (expSVsK (E.peek f) hp args fun as rd => ansN E call hp nb f as rd K)
noncomputable def cloN (fv : NV) : Option (FuncId × List C) := @NV.rec (fun _ => Option (FuncId × List C)) (fun _ _ => none) (fun _ => none) (fun _ => none) (fun _ _ => none) (fun _ _ _ => none) (fun _ _ => none) (fun _ _ => none) (fun _ _ _ => none) (fun _ _ _ => none)
  (fun c => match c with | .clo f caps => some (f, caps) | _ => none) (fun _ => none) (fun _ => none) (fun _ => none) (fun v => match v with | .s (.one (.clo f caps)) => some (f, caps) | _ => none) fv
noncomputable def callOp (opd : ON) (H : List Ob) (hp : HP) (nb : Nat) (K : OutN → Option HQ → Option ρ) (x : Operand) (args : Array Operand) : Option ρ :=
  ob (opd x) fun fv => ob (cloN fv) fun fc => ob (svsN opd args.toList) fun as => ob (E.P.funcs[fc.1]?) fun fn => cond (fn.name == "runtime.NumGoroutine") none
    (@Option.rec Code (fun _ => Option ρ) (cond (fc.2.isEmpty && fn.origin == "") (ob (externV fn.name (as.map .s)) fun v => K ⟨avN v, [], [], nb⟩ none) none) (fun _ => callN E call body H hp nb fc.1 (as ++ fc.2.map .one) K) fn.body)

noncomputable def putDN (N : Nat) (t : TN) (dst : Option Tmp) (v : NV) (K : TN → Option ρ) : Option ρ := @Option.rec Tmp (fun _ => Option ρ) (K t) (fun d => forceTab v (Option ρ) fun v => K (pushN N t d v)) dst
noncomputable def putHN (wr : List Wr) (hq : Option HQ) (H : List Ob) (hp : HP) (n : Nat) (K : List Ob → HP → Nat → Option ρ) : Option ρ := @Option.rec HQ (fun _ => Option ρ) (putsN wr H hp n K) (fun q => K (puts H wr) q.hp q.n) hq

abbrev IH (ρ : Type) := TN → List Ob → HP → Nat → (TN → List Ob → HP → Nat → Option ρ) → Option ρ
noncomputable def finN (N : Nat) (ih : IH ρ) (t : TN) (H : List Ob) (hp : HP) (n : Nat) (K : TN → List Ob → HP → Nat → Option ρ) (dst : Option Tmp) (out : OutN) (hq : Option HQ) : Option ρ :=
  putDN N t dst out.v fun t => putHN out.wr hq H hp n fun H hp n => ih t H hp n K
noncomputable def runN (N : Nat) (ih : IH ρ) (t : TN) (H : List Ob) (hp : HP) (n : Nat) (K : TN → List Ob → HP → Nat → Option ρ) (o : Oper) : Option ρ :=
  opTab o.op ρ E (opdN t) hp n (callOp E call body (opdN t) H hp n (finN N ih t H hp n K o.dst)) fun out => finN N ih t H hp n K o.dst out none
noncomputable def passN (N : Nat) (ih : IH ρ) (t : TN) (H : List Ob) (hp : HP) (n : Nat) (K : TN → List Ob → HP → Nat → Option ρ) (o : Oper) : Option ρ := putDN N t o.dst (.tup []) fun t => ih t H hp n K
noncomputable def isTup : NV → Bool := @NV.rec (fun _ => Bool) (fun _ _ => false) (fun _ => false) (fun _ => false) (fun _ _ => false) (fun _ _ _ => false) (fun _ _ => false) (fun _ _ => false) (fun _ _ _ => false) (fun _ _ _ => false) (fun _ => false) (fun _ => true) (fun _ => false) (fun _ => false) (fun v => match v with | .tup _ => true | _ => false)
noncomputable def guardN (ops : Array Oper) (N : Nat) (ih : IH ρ) (t : TN) (H : List Ob) (hp : HP) (n : Nat) (K : TN → List Ob → HP → Nat → Option ρ) (o : Oper) : Option ρ :=
  ob (guardTmp ops o) fun g => ob (t g.1) fun v => cond (isTup v) (passN N ih t H hp n K o) (ob v.bl fun b => cond b (cond g.2 (runN E call body N ih t H hp n K o) (passN N ih t H hp n K o)) (cond g.2 (passN N ih t H hp n K o) (runN E call body N ih t H hp n K o)))
noncomputable def stepN (ops : Array Oper) (N : Nat) (o : Oper) (ih : IH ρ) (t : TN) (H : List Ob) (hp : HP) (n : Nat) (K : TN → List Ob → HP → Nat → Option ρ) : Option ρ :=
  @Option.rec (Nat × Bool) (fun _ => Option ρ) (runN E call body N ih t H hp n K o) (fun _ => guardN E call body ops N ih t H hp n K o) o.guard
noncomputable def opsN (ops : Array Oper) (N : Nat) (l : List Oper) : IH ρ :=
  @List.rec Oper (fun _ => IH ρ) (fun t H hp n K => K t H hp n) (fun o _ ih => stepN E call body ops N o ih) l

/-- The same, with what each operation reads and writes. -/
noncomputable def opsNL (ops : Array Oper) (N : Nat) : List Oper → TN → List Ob → HP → Nat → List Log → (TN → List Ob → HP → Nat → List Log → Option ρ) → Option ρ
  | [], t, H, hp, n, lg, K => K t H hp n lg
  | o :: rest, t, H, hp, n, lg, K =>
    let fin (out : OutN) (hq : Option HQ) : Option ρ := putDN N t o.dst out.v fun t => putHN out.wr hq H hp n fun H hp n' => opsNL ops N rest t H hp n' (lg ++ [⟨o.dst, out.rd ++ (List.range' n (out.nb - n)).map .obj, out.wr⟩]) K
    let run : Option ρ := opTab o.op ρ E (opdN t) hp n (callOp E call body (opdN t) H hp n fin) fun out => fin out none
    let pass : Option ρ := putDN N t o.dst (.tup []) fun t => opsNL ops N rest t H hp n (lg ++ [⟨o.dst, [], []⟩]) K
    match o.guard with
    | none => run
    | some _ => ob (guardTmp ops o) fun g => ob (t g.1) fun v => cond (isTup v) pass (ob v.bl fun b => cond b (cond g.2 run pass) (cond g.2 pass run))

noncomputable def codeN (N : Nat) : Code → TN → List Ob → HP → Nat → (X → TN → List Ob → HP → Nat → Option ρ) → Option ρ
  | .skip, t, H, hp, n, K => K .normal t H hp n
  | .region id ops draw, t, H, hp, n, K => cond (E.cut id) none (cond draw (opsNL E call body ops N ops.toList t H hp n [] fun t H hp n lg => cond (indepAll ops lg) (K .normal t H hp n) none) (opsN E call body ops N ops.toList t H hp n (K .normal)))
  | .seq a b, t, H, hp, n, K => codeN N a t H hp n fun e t' H' hp' n' => match e with | .normal => codeN N b t' H' hp' n' K | e => K e t' H' hp' n'
  | .cond c x y, t, H, hp, n, K => ob (opdN t c) fun v => ob v.bl fun b => cond b (codeN N x t H hp n K) (codeN N y t H hp n K)
  | .block id c, t, H, hp, n, K => codeN N c t H hp n fun e t' H' hp' n' => match e with | .exit id' => cond (Nat.beq id' id) (K .normal t' H' hp' n') (K (.exit id') t' H' hp' n') | e => K e t' H' hp' n'
  | .loop c, t, H, hp, n, K => codeN N c t H hp n fun e t' H' hp' n' => match e with | .normal => body N (.loop c) t' H' hp' n' K | e => K e t' H' hp' n'
  | .exit id, t, H, hp, n, K => K (.exit id) t H hp n
  | .ret, t, H, hp, n, K => K .ret t H hp n
  | _, _, _, _, _, _ => none
end

/-- The evaluator. -/
noncomputable def evN (E : Env) : Nat → (ρ : Type) → Nat → Code → TN → List Ob → HP → Nat → (X → TN → List Ob → HP → Nat → Option ρ) → Option ρ
  | 0, _, _, _, _, _, _, _, _ => none
  | n + 1, ρ, N, c, t, H, hp, nb, K => codeN E
      (fun f args => match E.nat f args with
        | some (_, cs) => decR (rks E f) cs
        | none => (E.P.funcs[f]?).bind fun fn => fn.body.bind fun c => evN E n (RTup (rks E f)) (lenT fn args) c (initN args (lenT fn args)) [] (Hp []) 0 fun e t _ hp _ => match e with
          | .exit _ => none
          | _ => resN E t hp fn.results.toList fn.resultTypes.toList fun vs => (cellsAll vs).bind fun cs => outCsQ hp [] (rks E f) cs)
      (fun N c t H hp nb K => evN E n ρ N c t H hp nb K) N c t H hp nb K

noncomputable def fnN (E : Env) (n : Nat) (f : FuncId) (args : List SV) : Option (RTup (rks E f)) :=
  (E.P.funcs[f]?).bind fun fn => fn.body.bind fun c => evN E n (RTup (rks E f)) (lenT fn args) c (initN args (lenT fn args)) [] (Hp []) 0 fun e t _ hp _ => match e with
    | .exit _ => none
    | _ => resN E t hp fn.results.toList fn.resultTypes.toList fun vs => (cellsAll vs).bind fun cs => outCsQ hp [] (rks E f) cs
end Go.Ev

namespace Go.Ev
open Go
set_option maxRecDepth 100000

section
variable {ρ : Type} (E : Env)
variable (call : (f : FuncId) → List SV → Option (RTup (rks E f))) (bodyN : Nat → Code → TN → List Ob → HP → Nat → (X → TN → List Ob → HP → Nat → Option ρ) → Option ρ) (body : Code → St → (X → St → Option ρ) → Option ρ)
variable (hb : ∀ (N : Nat) (c : Code) (l : List AV) (t : TN) (H : List Ob) (K' : X → TN → List Ob → HP → Nat → Option ρ) (K : X → St → Option ρ), AgN l t → l.length = N →
  (∀ (e : X) (l : List AV) (t : TN) (H : List Ob), AgN l t → l.length = N → K' e t H (Hp H) H.length = K e ⟨l, H⟩) → bodyN N c t H (Hp H) H.length K' = body c ⟨l, H⟩ K)
include hb

theorem callN_eq (H : List Ob) (nb : Nat) (hnb : nb = H.length) (f : FuncId) (args : List SV) (K' : OutN → Option HQ → Option ρ) (K : Out → Option ρ) (h0 : ∀ o, K' o none = K o.out) (h1 : ∀ (o : OutN) (H' : List Ob), o.wr = [.heap H'] → K' o (some ⟨Hp H', H'.length⟩) = K o.out) :
    callN E call bodyN H (Hp H) nb f args K' = callV E call body H nb f args K := by
  subst hnb
  unfold callN callV
  have es : (args.all (shSVQ (E.peek f) (Hp H))) = args.all (shSV (E.peek f) H) := by
    rw [show shSVQ (E.peek f) (Hp H) = shSV (E.peek f) H from funext (shSVQ_eq (E.peek f) H)]
  rw [es]
  cases hin : (E.inl f || !(args.all (shSV (E.peek f) H))) with
  | false =>
    rw [cond_false, if_neg (by simp), expSVsK_eq]
    refine congrArg (Option.bind _) (funext fun x => ?_)
    unfold ansN
    simp only [ob_eq, h0]
    simp only [OutN.out, avN_av]
  | true =>
    rw [cond_true, if_pos rfl]
    unfold inlN
    simp only [ob_eq]
    refine congrArg (Option.bind _) (funext fun fn => congrArg (Option.bind _) (funext fun c => ?_))
    have e : initSt fn args H = ⟨(initSt fn args H).tmps, H⟩ := rfl
    rw [e]
    refine hb _ _ _ _ _ _ _ (initN_ag fn args H) (initT_len fn args H) ?_
    intro e l t H h _
    have hr : (resN E t (Hp H) fn.results.toList fn.resultTypes.toList fun vs => K' ⟨avN (resVal vs), [.heap H], [.all], H.length⟩ (some ⟨Hp H, H.length⟩)) = resVals E ⟨l, H⟩ fn.results.toList fn.resultTypes.toList fun vs => K ⟨resVal vs, [.heap H], [.all], H.length⟩ := by
      rw [resN_eq E h]
      refine congrArg _ (funext fun vs => ?_)
      rw [h1 _ H rfl]
      simp only [OutN.out, avN_av]
    cases e <;> first | rfl | exact hr

theorem runN_eq {l : List AV} {t : TN} (h : AgN l t) (H : List Ob) (o : Oper) (F' : OutN → Option HQ → Option ρ) (F : Out → Option ρ) (h0 : ∀ o, F' o none = F o.out) (h1 : ∀ (o : OutN) (H' : List Ob), o.wr = [.heap H'] → F' o (some ⟨Hp H', H'.length⟩) = F o.out) :
    (opTab o.op ρ E (opdN t) (Hp H) H.length (callOp E call bodyN (opdN t) H (Hp H) H.length F') fun out => F' out none) = opV E call body l H H.length o F := by
  have hf := opdN_ok h
  have hgen : (∀ x args ts, o.op ≠ .call ⟨.value x, args, ts⟩) → (opTab o.op ρ E (opdN t) (Hp H) H.length (callOp E call bodyN (opdN t) H (Hp H) H.length F') fun out => F' out none) = aopF E l H H.length o F := fun hne =>
    (opTab_eq E hf H H.length _ (K' := fun out => F' out none) (K := F) h0 o hne).trans (aopT_eq E l H H.length o F)
  obtain ⟨dst, op, ty, pos, after, guard⟩ := o
  cases op with
  | call c =>
    obtain ⟨callee, args, ts⟩ := c
    cases callee with
    | value x =>
      show callOp E call bodyN (opdN t) H (Hp H) H.length F' x args = _
      simp only [opV]
      unfold callOp
      refine ob_opd hf x fun fv => ?_
      simp only [svsN_eq hf, ob_eq]
      have key : ∀ (g : FuncId) (caps : List C), ((args.toList.mapM fun y => (operand l y).bind AV.sv).bind fun as => (E.P.funcs[g]?).bind fun fn => cond (fn.name == "runtime.NumGoroutine") none
          (@Option.rec Code (fun _ => Option ρ) (cond (caps.isEmpty && fn.origin == "") ((externV fn.name (as.map .s)).bind fun v => F' ⟨avN v, [], [], H.length⟩ none) none) (fun _ => callN E call bodyN H (Hp H) H.length g (as ++ caps.map .one) F') fn.body)) =
        (args.toList.mapM fun y => (operand l y).bind AV.sv).bind fun as => (E.P.funcs[g]?).bind fun fn => if fn.name == "runtime.NumGoroutine" then none else (match fn.body with
          | some _ => callV E call body H H.length g (as ++ caps.map .one) F
          | none => if caps.isEmpty && fn.origin == "" then (externV fn.name (as.map .s)).bind fun v => F ⟨v, [], [], H.length⟩ else none) := by
        intro g caps
        refine congrArg (Option.bind _) (funext fun as => congrArg (Option.bind _) (funext fun fn => ?_))
        cases fn.name == "runtime.NumGoroutine" with
        | true => rfl
        | false =>
          simp only [cond_false, Bool.false_eq_true, if_false]
          cases fn.body with
          | some _ => exact callN_eq E call bodyN body hb H _ rfl g _ F' F h0 h1
          | none =>
            dsimp only
            cases (caps.isEmpty && fn.origin == "") with
            | false => rfl
            | true =>
              simp only [cond_true, if_true, h0, OutN.out, avN_av]
      have hno : ∀ (z : Option (List SV)), z.bind (fun _ => (none : Option ρ)) = none := fun z => by cases z <;> rfl
      cases fv with
      | one c => cases c with
        | clo g caps => exact key g caps
        | _ => exact (hno _).symm
      | other v => cases v with
        | s y => cases y with
          | one c => cases c with
            | clo g caps => exact key g caps
            | _ => exact (hno _).symm
          | _ => exact (hno _).symm
        | _ => exact (hno _).symm
      | _ => exact (hno _).symm
    | _ => simp only [opV]; exact hgen (fun x a t hh => by cases hh)
  | _ => simp only [opV]; exact hgen (fun x a t hh => by cases hh)

omit hb in
theorem putDN_eq {N : Nat} {l : List AV} {t : TN} (h : AgN l t) (hN : l.length = N) (dst : Option Tmp) (v : NV) (K1 : TN → Option ρ) (y : Option ρ)
    (hK : ∀ t', AgN (putT l dst v.av) t' → (putT l dst v.av).length = N → K1 t' = y) : putDN N t dst v K1 = y := by
  cases dst with
  | none => exact hK t h hN
  | some d =>
    show forceTab v (Option ρ) (fun v => K1 (pushN N t d v)) = y
    rw [forceTab_eq]
    exact hK _ (pushN_ag h hN) (by simpa [putT] using hN)

omit hb in
/-- What becomes of an outcome. -/
theorem fin_eq {N : Nat} {l : List AV} {t : TN} (h : AgN l t) (hN : l.length = N) (H : List Ob) (dst : Option Tmp) (G' : OutN → TN → List Ob → HP → Nat → Option ρ) (G : Out → List AV → List Ob → Option ρ)
    (hG : ∀ (o : OutN) (l : List AV) (t : TN) (H : List Ob), AgN l t → l.length = N → G' o t H (Hp H) H.length = G o.out l H) :
    (∀ o : OutN, (putDN N t dst o.v fun t => putHN o.wr none H (Hp H) H.length fun H hp n => G' o t H hp n) = G o.out (putT l dst o.out.v) (puts H o.out.wr)) ∧
    (∀ (o : OutN) (H' : List Ob), o.wr = [.heap H'] → (putDN N t dst o.v fun t => putHN o.wr (some ⟨Hp H', H'.length⟩) H (Hp H) H.length fun H hp n => G' o t H hp n) = G o.out (putT l dst o.out.v) (puts H o.out.wr)) := by
  constructor
  · intro o
    refine putDN_eq h hN _ _ _ _ fun t' h' hN' => ?_
    show putsN o.wr H (Hp H) H.length _ = _
    rw [putsN_eq]
    exact hG o _ _ _ h' hN'
  · intro o H' hw
    refine putDN_eq h hN _ _ _ _ fun t' h' hN' => ?_
    have e : puts H o.wr = H' := by rw [hw]; rfl
    show G' o t' (puts H o.wr) (Hp H') H'.length = _
    rw [e]
    have := hG o _ _ H' h' hN'
    rw [this]
    have e2 : puts H o.out.wr = H' := e
    rw [e2]
    rfl

omit hb in
theorem isTup_eq (v : NV) : isTup v = (match v.av with | .tup _ => true | _ => false) := by
  cases v with
  | other v => cases v <;> rfl
  | _ => rfl
omit hb in
theorem bl_eq (v : NV) : v.bl = (match v.av with | .s (.one (.p (.v (.bool b)))) => some b | _ => none) := by
  cases v with
  | one c => cases c with
    | p x => cases x with
      | v u => cases u <;> rfl
      | _ => rfl
    | _ => rfl
  | other v => cases v with
    | s y => cases y with
      | one c => cases c with
        | p x => cases x with
          | v u => cases u <;> rfl
          | _ => rfl
        | _ => rfl
      | _ => rfl
    | _ => rfl
  | _ => rfl

omit hb in
theorem guard_eq {l : List AV} {t : TN} (h : AgN l t) (ops : Array Oper) (o : Oper) (run' pass' : Option ρ) (run pass : List AV → Option ρ) (hr : run' = run l) (hp : pass' = pass l) :
    (ob (guardTmp ops o) fun g => ob (t g.1) fun v => cond (isTup v) pass' (ob v.bl fun b => cond b (cond g.2 run' pass') (cond g.2 pass' run'))) =
    (guardTmp ops o).bind fun g => (l[g.1]?).bind fun v => match v with
      | .tup _ => pass l
      | .s (.one (.p (.v (.bool b)))) => cond b (if g.2 then run (l.set g.1 (boolV true)) else pass (l.set g.1 (boolV true))) (if g.2 then pass (l.set g.1 (boolV false)) else run (l.set g.1 (boolV false)))
      | _ => none := by
  simp only [ob_eq]
  refine congrArg (Option.bind _) (funext fun g => ?_)
  have hg := h g.1
  cases ht : t g.1 with
  | none => rw [ht] at hg; rw [← hg]; rfl
  | some v =>
    rw [ht] at hg
    rw [← hg]
    simp only [Option.bind_some, Option.map_some]
    have hg' : l[g.1]? = some v.av := hg.symm
    have e1 : isTup v = (match v.av with | .tup _ => true | _ => false) := by
      cases v with
      | other v => cases v <;> rfl
      | _ => rfl
    have e2 : v.bl = (match v.av with | .s (.one (.p (.v (.bool b)))) => some b | _ => none) := by
      cases v with
      | one c => cases c with
        | p x => cases x with
          | v u => cases u <;> rfl
          | _ => rfl
        | _ => rfl
      | other v => cases v with
        | s y => cases y with
          | one c => cases c with
            | p x => cases x with
              | v u => cases u <;> rfl
              | _ => rfl
            | _ => rfl
          | _ => rfl
        | _ => rfl
      | _ => rfl
    rw [e1, e2, hr, hp]
    generalize hv : v.av = a at *
    cases a with
    | tup _ => rfl
    | g _ _ _ => rfl
    | s y =>
      cases y with
      | one c =>
        cases c with
        | p x =>
          cases x with
          | v u =>
            cases u with
            | bool b =>
              have hs : l.set g.1 (boolV b) = l := set_self hg'
              cases b with
              | true => dsimp only; rw [hs]; cases g.2 <;> rfl
              | false => dsimp only; rw [hs]; cases g.2 <;> rfl
            | _ => rfl
          | _ => rfl
        | _ => rfl
      | _ => rfl

theorem opsN_eq (ops : Array Oper) (N : Nat) (os : List Oper) : ∀ (l : List AV) (t : TN) (H : List Ob) (lg : List Log) (K' : TN → List Ob → HP → Nat → Option ρ) (K : List AV → List Ob → List Log → Option ρ), AgN l t → l.length = N →
    (∀ (l : List AV) (t : TN) (H : List Ob) (lg : List Log), AgN l t → l.length = N → K' t H (Hp H) H.length = K l H lg) → opsN E call bodyN ops N os t H (Hp H) H.length K' = opsV E call body ops os l H lg K := by
  induction os with
  | nil => intro l t H lg K' K h hN hK; exact hK l t H lg h hN
  | cons o rest ih =>
    intro l t H lg K' K h hN hK
    have hfin := fin_eq h hN H o.dst (fun _ t H hp n => opsN E call bodyN ops N rest t H hp n K') (fun out l H' => opsV E call body ops rest l H' (lg ++ [⟨o.dst, out.rd ++ (List.range' H.length (out.nb - H.length)).map .obj, out.wr⟩]) K)
      (fun out l t H' h hN => ih l t H' _ K' K h hN hK)
    have hrun : runN E call bodyN N (opsN E call bodyN ops N rest) t H (Hp H) H.length K' o = opV E call body l H H.length o fun out => opsV E call body ops rest (putT l o.dst out.v) (puts H out.wr) (lg ++ [⟨o.dst, out.rd ++ (List.range' H.length (out.nb - H.length)).map .obj, out.wr⟩]) K :=
      runN_eq E call bodyN body hb h H o (finN N (opsN E call bodyN ops N rest) t H (Hp H) H.length K' o.dst) _ hfin.1 hfin.2
    have hpass : passN N (opsN E call bodyN ops N rest) t H (Hp H) H.length K' o = opsV E call body ops rest (putT l o.dst (.tup [])) H (lg ++ [⟨o.dst, [], []⟩]) K := by
      unfold passN
      refine putDN_eq h hN _ _ _ _ fun t' h' hN' => ?_
      exact ih _ _ _ _ _ _ h' hN' hK
    let runF : List AV → Option ρ := fun tm => opV E call body tm H H.length o fun out => opsV E call body ops rest (putT tm o.dst out.v) (puts H out.wr) (lg ++ [⟨o.dst, out.rd ++ (List.range' H.length (out.nb - H.length)).map .obj, out.wr⟩]) K
    let passF : List AV → Option ρ := fun tm => opsV E call body ops rest (putT tm o.dst (.tup [])) H (lg ++ [⟨o.dst, [], []⟩]) K
    show stepN E call bodyN ops N o (opsN E call bodyN ops N rest) t H (Hp H) H.length K' = _
    unfold stepN
    simp only [opsV]
    cases o.guard with
    | none => exact hrun
    | some _ =>
      exact guard_eq h ops o _ _ runF passF hrun hpass

theorem opsNL_eq (ops : Array Oper) (N : Nat) (os : List Oper) : ∀ (l : List AV) (t : TN) (H : List Ob) (lg : List Log) (K' : TN → List Ob → HP → Nat → List Log → Option ρ) (K : List AV → List Ob → List Log → Option ρ), AgN l t → l.length = N →
    (∀ (l : List AV) (t : TN) (H : List Ob) (lg : List Log), AgN l t → l.length = N → K' t H (Hp H) H.length lg = K l H lg) → opsNL E call bodyN ops N os t H (Hp H) H.length lg K' = opsV E call body ops os l H lg K := by
  induction os with
  | nil => intro l t H lg K' K h hN hK; exact hK l t H lg h hN
  | cons o rest ih =>
    intro l t H lg K' K h hN hK
    have hfin := fin_eq h hN H o.dst (fun out t H' hp n => opsNL E call bodyN ops N rest t H' hp n (lg ++ [⟨o.dst, out.rd ++ (List.range' H.length (out.nb - H.length)).map .obj, out.wr⟩]) K') (fun out l H' => opsV E call body ops rest l H' (lg ++ [⟨o.dst, out.rd ++ (List.range' H.length (out.nb - H.length)).map .obj, out.wr⟩]) K)
      (fun out l t H' h hN => ih l t H' _ K' K h hN hK)
    have hrun := runN_eq E call bodyN body hb h H o (fun out hq => putDN N t o.dst out.v fun t => putHN out.wr hq H (Hp H) H.length fun H' hp n' => opsNL E call bodyN ops N rest t H' hp n' (lg ++ [⟨o.dst, out.rd ++ (List.range' H.length (out.nb - H.length)).map .obj, out.wr⟩]) K')
      (fun out => opsV E call body ops rest (putT l o.dst out.v) (puts H out.wr) (lg ++ [⟨o.dst, out.rd ++ (List.range' H.length (out.nb - H.length)).map .obj, out.wr⟩]) K) hfin.1 hfin.2
    have hpass : (putDN N t o.dst (.tup []) fun t => opsNL E call bodyN ops N rest t H (Hp H) H.length (lg ++ [⟨o.dst, [], []⟩]) K') = opsV E call body ops rest (putT l o.dst (.tup [])) H (lg ++ [⟨o.dst, [], []⟩]) K := by
      refine putDN_eq h hN _ _ _ _ fun t' h' hN' => ?_
      exact ih _ _ _ _ _ _ h' hN' hK
    let runF : List AV → Option ρ := fun tm => opV E call body tm H H.length o fun out => opsV E call body ops rest (putT tm o.dst out.v) (puts H out.wr) (lg ++ [⟨o.dst, out.rd ++ (List.range' H.length (out.nb - H.length)).map .obj, out.wr⟩]) K
    let passF : List AV → Option ρ := fun tm => opsV E call body ops rest (putT tm o.dst (.tup [])) H (lg ++ [⟨o.dst, [], []⟩]) K
    simp only [opsNL, opsV]
    cases o.guard with
    | none => exact hrun
    | some _ =>
      exact guard_eq h ops o _ _ runF passF hrun hpass

theorem codeN_eq (hm : E.merge = false) (N : Nat) (c : Code) : ∀ (l : List AV) (t : TN) (H : List Ob) (K' : X → TN → List Ob → HP → Nat → Option ρ) (K : X → St → Option ρ), AgN l t → l.length = N →
    (∀ (e : X) (l : List AV) (t : TN) (H : List Ob), AgN l t → l.length = N → K' e t H (Hp H) H.length = K e ⟨l, H⟩) → codeN E call bodyN N c t H (Hp H) H.length K' = codeV E call body c ⟨l, H⟩ K := by
  induction c with
  | skip => intro l t H K' K h hN hK; exact hK _ _ _ _ h hN
  | region id ops draw =>
    intro l t H K' K h hN hK
    simp only [codeN, codeV, hm, Bool.false_and, Bool.false_eq_true, if_false]
    cases E.cut id with
    | true => rfl
    | false =>
      simp only [Bool.false_eq_true, if_false, cond_false]
      cases draw with
      | true =>
        simp only [cond_true, if_true]
        refine opsNL_eq E call bodyN body hb ops N _ _ _ _ _ _ _ h hN fun l t H lg h hN => ?_
        rw [hK _ _ _ _ h hN]
      | false =>
        simp only [cond_false, Bool.false_eq_true, if_false]
        exact opsN_eq E call bodyN body hb ops N _ _ _ _ _ _ _ h hN fun l t H lg h hN => hK _ _ _ _ h hN
  | seq a b iha ihb =>
    intro l t H K' K h hN hK
    simp only [codeN, codeV]
    refine iha _ _ _ _ _ h hN fun e l t H h hN => ?_
    cases e with
    | normal => exact ihb _ _ _ _ _ h hN hK
    | _ => exact hK _ _ _ _ h hN
  | cond c x y ihx ihy =>
    intro l t H K' K h hN hK
    simp only [codeN, codeV]
    refine ob_opd (opdN_ok h) c fun v => ?_
    rw [ihx _ _ _ _ _ h hN hK, ihy _ _ _ _ _ h hN hK, ob_eq, bl_eq]
    cases v.av with
    | s y => cases y with
      | one c => cases c with
        | p x => cases x with
          | v u => cases u <;> rfl
          | _ => rfl
        | _ => rfl
      | _ => rfl
    | _ => rfl
  | block id c ih =>
    intro l t H K' K h hN hK
    simp only [codeN, codeV]
    refine ih _ _ _ _ _ h hN fun e l t H h hN => ?_
    cases e with
    | exit id' => dsimp only; rw [beq_if]; split <;> exact hK _ _ _ _ h hN
    | _ => exact hK _ _ _ _ h hN
  | loop c ih =>
    intro l t H K' K h hN hK
    simp only [codeN, codeV]
    refine ih _ _ _ _ _ h hN fun e l t H h hN => ?_
    cases e with
    | normal => exact hb _ _ _ _ _ _ _ h hN hK
    | _ => exact hK _ _ _ _ h hN
  | exit id => intro l t H K' K h hN hK; exact hK _ _ _ _ h hN
  | ret => intro l t H K' K h hN hK; exact hK _ _ _ _ h hN
  | _ => intros; rfl
end

theorem evN_eq (E : Env) (hm : E.merge = false) : ∀ (n : Nat) (ρ : Type) (N : Nat) (c : Code) (l : List AV) (t : TN) (H : List Ob) (K' : X → TN → List Ob → HP → Nat → Option ρ) (K : X → St → Option ρ), AgN l t → l.length = N →
    (∀ (e : X) (l : List AV) (t : TN) (H : List Ob), AgN l t → l.length = N → K' e t H (Hp H) H.length = K e ⟨l, H⟩) → evN E n ρ N c t H (Hp H) H.length K' = ev E n ρ c ⟨l, H⟩ K := by
  intro n
  induction n with
  | zero => intros; rfl
  | succ n ih =>
    intro ρ N c l t H K' K h hN hK
    simp only [evN, ev]
    have hcall : (fun (f : FuncId) (args : List SV) => match E.nat f args with
        | some (_, cs) => decR (rks E f) cs
        | none => (E.P.funcs[f]?).bind fun fn => fn.body.bind fun c => evN E n (RTup (rks E f)) (lenT fn args) c (initN args (lenT fn args)) [] (Hp []) 0 fun e t _ hp _ => match e with
          | .exit _ => none
          | _ => resN E t hp fn.results.toList fn.resultTypes.toList fun vs => (cellsAll vs).bind fun cs => outCsQ hp [] (rks E f) cs) = (fun f args => match E.nat f args with
        | some (_, cs) => decR (rks E f) cs
        | none => (E.P.funcs[f]?).bind fun fn => fn.body.bind fun c => ev E n (RTup (rks E f)) c (initSt fn args []) fun e st => match e with
          | .exit _ => none
          | _ => resVals E st fn.results.toList fn.resultTypes.toList fun vs => (cellsAll vs).bind fun cs => outCs st.heap [] (rks E f) cs) := by
      funext f args
      cases E.nat f args with
      | some x => rfl
      | none =>
        dsimp only
        refine congrArg (Option.bind _) (funext fun fn => congrArg (Option.bind _) (funext fun c => ?_))
        have e : initSt fn args [] = ⟨(initSt fn args []).tmps, []⟩ := rfl
        rw [e]
        refine ih _ _ _ _ _ [] _ _ (initN_ag fn args []) (initT_len fn args []) ?_
        intro e l t H h _
        have hr : (resN E t (Hp H) fn.results.toList fn.resultTypes.toList fun vs => (cellsAll vs).bind fun cs => outCsQ (Hp H) [] (rks E f) cs) = resVals E ⟨l, H⟩ fn.results.toList fn.resultTypes.toList fun vs => (cellsAll vs).bind fun cs => outCs H [] (rks E f) cs := by
          rw [resN_eq E h]; simp only [outCsQ_eq]
        cases e <;> first | rfl | exact hr
    exact (congrArg (fun cl => codeN E cl (fun N c t H hp nb K => evN E n ρ N c t H hp nb K) N c t H (Hp H) H.length K') hcall).trans <| codeN_eq E _ _ _ (fun N c l t H K' K h hN hK => ih ρ N c l t H K' K h hN hK) hm N c l t H K' K h hN hK

theorem fnN_eq (E : Env) (hm : E.merge = false) (n : Nat) (f : FuncId) (args : List SV) : fnN E n f args = fnV E n f args := by
  unfold fnN fnV
  refine congrArg (Option.bind _) (funext fun fn => congrArg (Option.bind _) (funext fun c => ?_))
  have e : initSt fn args [] = ⟨(initSt fn args []).tmps, []⟩ := rfl
  rw [e]
  refine evN_eq E hm n _ _ _ _ _ [] _ _ (initN_ag fn args []) (initT_len fn args []) ?_
  intro e l t H h _
  have hr : (resN E t (Hp H) fn.results.toList fn.resultTypes.toList fun vs => (cellsAll vs).bind fun cs => outCsQ (Hp H) [] (rks E f) cs) = resVals E ⟨l, H⟩ fn.results.toList fn.resultTypes.toList fun vs => (cellsAll vs).bind fun cs => outCs H [] (rks E f) cs := by
    rw [resN_eq E h]; simp only [outCsQ_eq]
  cases e <;> first | rfl | exact hr
end Go.Ev
