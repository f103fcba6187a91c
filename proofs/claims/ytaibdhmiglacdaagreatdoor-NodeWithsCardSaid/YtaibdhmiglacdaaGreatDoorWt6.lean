/-
  Operators.
  Addresses, loads, parts.
  Parts of values, slices of strings and slices, lengths, built values.
  New objects, built values.
  Operations that make or write objects.
  Stores.
  append.
  append where arrays may hold slices of the heap; make, copy, clear, lengths, conversions.
  The other built-in functions, make, conversions; all operations that call nothing.
-/
import Derived.Test.YtaibdhmiglacdaaGreatDoorWt1
import Derived.Laws.StructEq
import Derived.ChangeKeysEq

namespace Go.Ev
open Go
variable {G : Nat → Option (List PC)}

theorem eqGuard_flat (P : Program) : ∀ (n m : Nat) (t : TypeId), n ≤ m → eqFlat P n t = true → P.eqGuardType m t = false
  | 0, _, _, _, h => by simp [eqFlat] at h
  | n + 1, 0, _, hm, _ => by omega
  | n + 1, m + 1, t, hm, h => by
    unfold eqFlat at h
    unfold Program.eqGuardType
    cases hu : P.underlying t with
    | none => rfl
    | some d =>
      rw [hu] at h
      cases d with
      | struct fs =>
        simp only [Array.all_eq_true] at h
        simp only [Array.any_eq_false]
        intro i hi
        simp [eqGuard_flat P n m _ (by omega) (h i hi)]
      | array k e => exact eqGuard_flat P n m e (by omega) h
      | interface ms => simp at h
      | _ => rfl

theorem part_agg {P : Program} {w : World} {t : TypeId} {s : Nat} {cs : List Value} {off : Nat} (ha : aggT P t = some true) (hs : szOf P t = some s) :
    (part t cs.toArray off).run P w = .ok (.agg ((cs.drop off).take s).toArray) w := by
  unfold part
  rw [Sem.run_bind, run_isAgg' ha]
  simp only [Result.andThen_ok, if_true, Sem.run_bind, run_sizeOf' hs, Sem.run_pure]
  congr 2
  apply Array.ext'
  simp [List.extract_eq_take_drop, Nat.add_sub_cancel_left]

theorem part_one {P : Program} {w : World} {t : TypeId} {cs : List Value} {off : Nat} {v : Value} (ha : aggT P t = some false) (hv : cs[off]? = some v) :
    (part t cs.toArray off).run P w = .ok v w := by
  unfold part
  rw [Sem.run_bind, run_isAgg' ha]
  simp [hv]

/-- A type's value of these cells. -/
def valOf (agg : Bool) (cs : List Value) : Value := if agg then .agg cs.toArray else cs.headD undef

theorem part_val {P : Program} {w : World} {t : TypeId} {s : Nat} {b : Bool} {cs : List Value} {off : Nat} (ha : aggT P t = some b) (hs : szOf P t = some s) (hl : off + s ≤ cs.length) (h1 : b = false → s = 1) :
    (part t cs.toArray off).run P w = .ok (valOf b ((cs.drop off).take s)) w := by
  cases b with
  | true => exact part_agg ha hs
  | false =>
    have h1 := h1 rfl
    subst h1
    have hlt : off < cs.length := by omega
    rw [part_one ha (List.getElem?_eq_getElem hlt)]
    rw [List.drop_eq_getElem_cons hlt]; rfl

section
variable {R : Nat → Prop} {P : Program} {w : World}

theorem PReps.drop {xs : List PC} {vs : List Value} (h : PReps R w xs vs) (off n : Nat) : PReps R w ((xs.drop off).take n) ((vs.drop off).take n) := by
  refine ⟨by simp [h.1], fun i c y hc hy => ?_⟩
  rw [List.getElem?_take] at hc hy
  split at hc
  · next hi => rw [if_pos hi] at hy; rw [List.getElem?_drop] at hc hy; exact h.2 _ c y hc hy
  · cases hc

theorem PReps.one {c : PC} {vs : List Value} (h : PReps R w [c] vs) : ∃ v, vs = [v] ∧ PRep R w c v := by
  obtain ⟨h1, h2⟩ := h
  match vs, h1 with
  | [v], _ => exact ⟨v, rfl, h2 0 c v rfl rfl⟩

theorem PRep.val {x y : Value} (h : PRep R w (.v x) y) : y = x := by cases h; rfl

theorem aggT_some {t : TypeId} {d : TypeDesc} (h : P.underlying t = some d) : aggT P t = some (isAggD d) := by
  unfold aggT; rw [h]; rfl

theorem eqT_run : ∀ (n d : Nat) (t : TypeId) (xs ys : List PC) (vs us : List Value) (b ag : Bool), n ≤ d → eqT P n t xs ys = some b → PReps R w xs vs → PReps R w ys us → aggT P t = some ag →
    (Op.equalIn d t (valOf ag vs) (valOf ag us)).run P w = .ok b w
  | 0, _, _, _, _, _, _, _, _, _, h, _, _, _ => by cases h
  | n + 1, 0, _, _, _, _, _, _, _, hd, _, _, _, _ => by omega
  | n + 1, d + 1, t, xs, ys, vs, us, b, ag, hd, h, hx, hy, hag => by
    unfold eqT at h
    split at h
    · next k0 k a k' b' hu =>
      obtain ⟨v, rfl, hv⟩ := hx.one
      obtain ⟨u, rfl, hu'⟩ := hy.one
      have := hv.val; subst this
      have := hu'.val; subst this
      rw [aggT_some hu] at hag; cases hag
      split at h
      · next hk => subst hk; cases h; exact run_equalIn_int w d t k k0 a b' hu
      · cases h
    · next a b' hu =>
      obtain ⟨v, rfl, hv⟩ := hx.one
      obtain ⟨u, rfl, hu'⟩ := hy.one
      have := hv.val; subst this
      have := hu'.val; subst this
      rw [aggT_some hu] at hag; cases hag; cases h
      exact run_equalIn_bool w d t a b' hu
    · next a b' hu =>
      obtain ⟨v, rfl, hv⟩ := hx.one
      obtain ⟨u, rfl, hu'⟩ := hy.one
      have := hv.val; subst this
      have := hu'.val; subst this
      rw [aggT_some hu] at hag; cases hag; cases h
      exact run_equalIn_string w d t a b' hu
    · next xs ys _ _ _ fs hu =>
      rw [aggT_some hu] at hag; cases hag
      split at h
      · cases h
      · next hst =>
        have hf : P.fieldsOf t = fs := by simp [Program.fieldsOf, hu]
        simp only [valOf, isAggD, if_true]
        rw [run_equalIn_struct (P := P) w d t _ _ (by rw [hf]; exact hu) (by simpa using hst), hf]
        -- the fields
        have key : ∀ (l : List Field) (b : Bool), eqFs (eqT P n) (szOf P) xs ys l = some b → (Op.eqFields d vs.toArray us.toArray l).run P w = .ok b w := by
          intro l
          induction l with
          | nil => intro b hb; cases hb; simp [Op.eqFields]
          | cons f fs ih =>
            intro b hb
            unfold eqFs at hb
            split at hb
            · cases hb
            · next hname =>
              simp only [Option.bind_eq_some_iff] at hb
              obtain ⟨s, hs, hb⟩ := hb
              split at hb
              · next hlen =>
                simp only [Option.bind_eq_some_iff] at hb
                obtain ⟨x, hx1, hb⟩ := hb
                obtain ⟨ag', hag'⟩ : ∃ ag', aggT P f.type = some ag' := by
                  unfold aggT
                  cases hu' : P.underlying f.type with
                  | some d => exact ⟨_, rfl⟩
                  | none =>
                    cases n with
                    | zero => cases hx1
                    | succ n => unfold eqT at hx1; rw [hu'] at hx1; cases hx1
                have h1 : ag' = false → s = 1 := by
                  intro e; subst e
                  cases n with
                  | zero => cases hx1
                  | succ n =>
                    unfold eqT at hx1
                    split at hx1
                    · next he _ => have := congrArg List.length he; simp at this; omega
                    · next he _ => have := congrArg List.length he; simp at this; omega
                    · next he _ => have := congrArg List.length he; simp at this; omega
                    · next hu' => rw [aggT_some hu'] at hag'; cases hag'
                    · next hu' => rw [aggT_some hu'] at hag'; cases hag'
                    · cases hx1
                have hlv : f.offset + s ≤ vs.length := by rw [← hx.1]; exact hlen.1
                have hlu : f.offset + s ≤ us.length := by rw [← hy.1]; exact hlen.2
                have he := eqT_run n d f.type _ _ _ _ x ag' (by omega) hx1 (hx.drop f.offset s) (hy.drop f.offset s) hag'
                have hp1 := part_val (P := P) (w := w) hag' hs hlv h1
                have hp2 := part_val (P := P) (w := w) hag' hs hlu h1
                rw [Op.eqFields]
                simp only [ne_eq, hname, not_false_eq_true, if_true, Sem.run_bind, hp1, hp2, he, Result.andThen_ok]
                cases fs with
                | nil => cases hb; cases b <;> simp [Op.eqFields]
                | cons f' fs' =>
                  simp only [Option.bind_eq_some_iff, Option.some.injEq] at hb
                  obtain ⟨y, hy1, rfl⟩ := hb
                  cases x
                  · simp
                  · simpa using ih y hy1
              · cases hb
        exact key fs.toList b h
    · next xs ys _ _ _ m e hu =>
      rw [aggT_some hu] at hag; cases hag
      simp only [Option.bind_eq_some_iff] at h
      obtain ⟨s, hs, h⟩ := h
      have hs' := hs
      unfold szOf at hs'
      simp only [Option.map_eq_some_iff] at hs'
      obtain ⟨i, hi, hsi⟩ := hs'
      have hcs : P.cellsOf e = s := by simp [Program.cellsOf, hi, hsi]
      simp only [valOf, isAggD, if_true]
      rw [run_equalIn_array (P := P) w d _ _ hu hi, hcs]
      have key : ∀ (l : List Nat) (b : Bool), eqIs (eqT P n e) s xs ys l = some b → (Op.eqItems d e s vs.toArray us.toArray l).run P w = .ok b w := by
        intro l
        induction l with
        | nil => intro b hb; cases hb; simp [Op.eqItems]
        | cons j l ih =>
          intro b hb
          unfold eqIs at hb
          split at hb
          · next hlen =>
            simp only [Option.bind_eq_some_iff, Option.some.injEq] at hb
            obtain ⟨x, hx1, y, hy1, rfl⟩ := hb
            obtain ⟨ag', hag'⟩ : ∃ ag', aggT P e = some ag' := by
              unfold aggT
              cases hu' : P.underlying e with
              | some d => exact ⟨_, rfl⟩
              | none =>
                cases n with
                | zero => cases hx1
                | succ n => unfold eqT at hx1; rw [hu'] at hx1; cases hx1
            have h1 : ag' = false → s = 1 := by
              intro e'; subst e'
              cases n with
              | zero => cases hx1
              | succ n =>
                unfold eqT at hx1
                split at hx1
                · next he _ => have := congrArg List.length he; simp at this; omega
                · next he _ => have := congrArg List.length he; simp at this; omega
                · next he _ => have := congrArg List.length he; simp at this; omega
                · next hu' => rw [aggT_some hu'] at hag'; cases hag'
                · next hu' => rw [aggT_some hu'] at hag'; cases hag'
                · cases hx1
            have hlv : j * s + s ≤ vs.length := by rw [← hx.1]; exact hlen.1
            have hlu : j * s + s ≤ us.length := by rw [← hy.1]; exact hlen.2
            have he := eqT_run n d e _ _ _ _ x ag' (by omega) hx1 (hx.drop (j * s) s) (hy.drop (j * s) s) hag'
            have hp1 := part_val (P := P) (w := w) hag' hs hlv h1
            have hp2 := part_val (P := P) (w := w) hag' hs hlu h1
            rw [Op.eqItems]
            simp only [Sem.run_bind, hp1, hp2, he, Result.andThen_ok]
            cases x
            · simp
            · simpa using ih y hy1
          · cases hb
      exact key _ b h
    · cases h
end


section
variable {κ : Kap} {R : Nat → Prop} {h : Nat → Ob} {w : World}

theorem equalIn_slice {P : Program} {t e : TypeId} (hu : P.underlying t = some (.slice e)) (d : Nat) (A : Option Addr) (l c l' c' : Nat) :
    (Op.equalIn (d + 1) t (.slice A l c) (.slice none l' c')).run P w = .ok A.isNone w := by
  cases A <;> simp only [Op.equalIn, Sem.run_bind, run_underlying' hu, Result.andThen_ok, Option.isNone_none, Option.isNone_some] <;> rfl
theorem equalIn_ptr {P : Program} {t e : TypeId} (hu : P.underlying t = some (.pointer e)) (d : Nat) (A : Option Addr) :
    (Op.equalIn (d + 1) t (.pointer A) (.pointer none)).run P w = .ok A.isNone w := by
  cases A <;> simp only [Op.equalIn, Sem.run_bind, run_underlying' hu, Result.andThen_ok, Option.isNone_none, Option.isNone_some] <;> rfl

theorem nilSl_rep {a : C} {x : Value} {r : Bool} (ha : CRep κ R h w a x) (hr : nilSl a = some r) : ∃ A l c, x = .slice A l c ∧ r = A.isNone := by
  unfold nilSl at hr
  split at hr
  · cases ha with | p _ _ hp => cases hp; cases hr; exact ⟨_, _, _, rfl, rfl⟩
  · cases ha with | p _ _ hp => cases hp; cases hr; exact ⟨_, _, _, rfl, rfl⟩
  · cases ha with
    | p _ _ hp =>
      cases hp with
      | sl _ _ _ A len cap f b o h1 h2 h3 h4 h5 h6 h7 =>
        cases hr
        refine ⟨_, _, _, rfl, ?_⟩
        have := h3 rfl
        cases A with
        | none => exact absurd rfl this
        | some _ => rfl
  · cases ha with
    | p _ _ hp =>
      cases hp with
      | sl _ _ _ A len cap f b o h1 h2 h3 h4 h5 h6 h7 =>
        cases hr
        refine ⟨_, _, _, rfl, ?_⟩
        have := (h5 (by simp)).1
        rw [this]; rfl
  · cases hr

theorem nilPtr_rep {a : C} {x : Value} {r : Bool} (ha : CRep κ R h w a x) (hr : nilPtr a = some r) : ∃ A, x = .pointer A ∧ r = A.isNone := by
  unfold nilPtr at hr
  split at hr
  · cases ha with | p _ _ hp => cases hp; cases hr; exact ⟨_, rfl, rfl⟩
  · cases ha with | p _ _ hp => cases hp; cases hr; exact ⟨_, rfl, rfl⟩
  · cases hr; cases ha <;> exact ⟨_, rfl, rfl⟩
  · cases hr; cases ha <;> exact ⟨_, rfl, rfl⟩
  · cases hr; cases ha; exact ⟨_, rfl, rfl⟩
  · cases hr

theorem notNil_rep {a : C} {x : Value} (ha : CRep κ R h w a x) (hn : notNil a = true) : (∃ p, x = .pointer (some p)) ∨ ∃ f cs, x = .func (.func f) #[] cs := by
  unfold notNil at hn
  split at hn
  · cases ha with | p _ _ hp => cases hp; exact .inl ⟨_, rfl⟩
  · cases ha <;> exact .inl ⟨_, rfl⟩
  · cases ha <;> exact .inl ⟨_, rfl⟩
  · cases ha; exact .inl ⟨_, rfl⟩
  · cases ha; exact .inr ⟨_, _, rfl⟩
  · cases hn

theorem isSlNil_rep {b : C} {y : Value} (hb : b.isSlNil = true) (hy : CRep κ R h w b y) : ∃ l c, y = .slice none l c := by
  unfold C.isSlNil at hb
  split at hb
  · cases hy with | p _ _ hp => cases hp; exact ⟨_, _, rfl⟩
  · cases hb

theorem isPtrNil_rep {b : C} {y : Value} (hb : b.isPtrNil = true) (hy : CRep κ R h w b y) : y = .pointer none := by
  unfold C.isPtrNil at hb
  split at hb
  · cases hy with | p _ _ hp => cases hp; rfl
  · cases hb
end

section ops
variable {ρ : Type} {E : Env} {tm : List AV} {H : List Ob} {nb : Nat} {K : Out → Option ρ} {r : ρ}
variable {dst : Option Tmp} {ty : TypeId} {pos : String} {after : Array Edge} {guard : Option (Nat × Bool)}

theorem run_eqGuard_none (P : Program) (w : World) (op : BinOp) (t : TypeId) (x y : Operand) (a b : Value) (h1 : ∀ c d, a = .agg c → b = .agg d → False) (h2 : a = .nilIface → False) :
    (eqGuard op t x y a b).run P w = .ok () w := by
  unfold eqGuard
  cases op
  case eql | neq =>
    simp only [Bool.not_true, Bool.false_eq_true, if_false]
    split
    · exact (h2 rfl).elim
    · exact (h1 _ _ rfl rfl).elim
    · rfl
  all_goals rfl

/-- The value of an operator: what it comes to in every state of these operands. -/
theorem sim_bin {P : Program} {op : BinOp} {t : TypeId} {x y : Operand} {v u : AV} {K : AV → Option ρ} (hK : binAny P op t v u K = some r) :
    ∃ z, K z = some r ∧ ∀ (κ : Kap) (R : Nat → Prop) (h : Nat → Ob) (w : World) (a b : Value), VRep κ R h w v a → VRep κ R h w u b →
      ∃ c, ((do eqGuard op t x y a b; binOp op t a b : Sem Value)).run P w = .ok c w ∧ VRep κ R h w z c := by
  unfold binAny at hK
  split at hK
  · next k a k' b =>
    -- integers
    have hg : ∀ (w : World) (a' b' : Value), a' = .int k a → b' = .int k' b → (eqGuard op t x y a' b').run P w = .ok () w := by
      rintro w _ _ rfl rfl
      exact run_eqGuard_none P w op t x y _ _ (fun _ _ e => by cases e) (fun e => by cases e)
    have hshift : binShift op k a b K = some r → (op = .shl ∨ op = .shr) → ∃ z, K z = some r ∧ ∀ (κ : Kap) (R : Nat → Prop) (h : Nat → Ob) (w : World) (a' b' : Value), VRep κ R h w (.s (.one (.p (.v (.int k a))))) a' → VRep κ R h w (.s (.one (.p (.v (.int k' b))))) b' →
      ∃ c, ((do eqGuard op t x y a' b'; binOp op t a' b' : Sem Value)).run P w = .ok c w ∧ VRep κ R h w z c := by
      intro hs hop
      unfold binShift at hs
      by_cases hb : b < 0
      · simp [hb] at hs
      · simp only [hb, decide_false, cond_false] at hs
        rcases hop with rfl | rfl
        · refine ⟨_, hs, fun κ R h w a' b' ha hb' => ?_⟩
          have e1 := val_rep (x := .int k a) rfl ha
          have e2 := val_rep (x := .int k' b) rfl hb'
          subst e1; subst e2
          refine ⟨_, ?_, rep_ints k _⟩
          rw [Sem.run_bind, hg w _ _ rfl rfl]
          simp [binOp, Op.shift, hb]
        · refine ⟨_, hs, fun κ R h w a' b' ha hb' => ?_⟩
          have e1 := val_rep (x := .int k a) rfl ha
          have e2 := val_rep (x := .int k' b) rfl hb'
          subst e1; subst e2
          refine ⟨_, ?_, rep_ints k _⟩
          rw [Sem.run_bind, hg w _ _ rfl rfl]
          simp [binOp, Op.shift, hb]
    split at hK
    · exact hshift hK (.inl rfl)
    · exact hshift hK (.inr rfl)
    · split at hK
      · next hk =>
        subst hk
        unfold binInt at hK
        split at hK
        all_goals first
          | (refine ⟨_, hK, fun κ R h w a' b' ha hb' => ?_⟩
             have e1 := val_rep (x := .int k a) rfl ha
             have e2 := val_rep (x := .int k b) rfl hb'
             subst e1; subst e2
             refine ⟨_, ?_, (by first | exact rep_ints k _ | exact rep_bool _)⟩
             rw [Sem.run_bind, hg w _ _ rfl rfl]
             simp [binOp, Op.intArith, Op.intBits, Op.intCmp]; done)
          | (by_cases hb : b = 0
             · simp [hb] at hK
             · have hb2 : (b == 0) = false := by simpa using hb
               simp only [hb2, cond_false] at hK
               refine ⟨_, hK, fun κ R h w a' b' ha hb' => ?_⟩
               have e1 := val_rep (x := .int k a) rfl ha
               have e2 := val_rep (x := .int k b) rfl hb'
               subst e1; subst e2
               refine ⟨_, ?_, rep_ints k _⟩
               rw [Sem.run_bind, hg w _ _ rfl rfl]
               simp [binOp, Op.intDiv, hb])
          | cases hK
      · cases hK
  · next a b =>
    have hg : ∀ (w : World) (a' b' : Value), a' = .string a → b' = .string b → (eqGuard op t x y a' b').run P w = .ok () w := by
      rintro w _ _ rfl rfl
      exact run_eqGuard_none P w op t x y _ _ (fun _ _ e => by cases e) (fun e => by cases e)
    unfold binStr at hK
    split at hK
    all_goals first
      | (refine ⟨_, hK, fun κ R h w a' b' ha hb' => ?_⟩
         have e1 := val_rep (x := .string a) rfl ha
         have e2 := val_rep (x := .string b) rfl hb'
         subst e1; subst e2
         refine ⟨_, ?_, rep_bool _⟩
         rw [Sem.run_bind, hg w _ _ rfl rfl]
         simp [binOp, Op.stringOp]; done)
      | (by_cases hb : a.size + b.size ≤ 9223372036854775807
         · simp only [hb, decide_true, cond_true] at hK
           refine ⟨_, hK, fun κ R h w a' b' ha hb' => ?_⟩
           have e1 := val_rep (x := .string a) rfl ha
           have e2 := val_rep (x := .string b) rfl hb'
           subst e1; subst e2
           refine ⟨.string (a ++ b), ?_, .p _ _ (.v _ rfl)⟩
           rw [Sem.run_bind, hg w _ _ rfl rfl]
           have hmax : ¬ (((a.size + b.size : Nat) : Int) > IntKind.i64.max) := by
             have : IntKind.i64.max = 9223372036854775807 := by decide
             rw [this]; omega
           simp only [Result.andThen_ok, binOp, Op.stringOp, if_neg hmax, Sem.run_pure]
         · simp [hb] at hK)
      | cases hK
  · next a b =>
    have hg : ∀ (w : World) (a' b' : Value), a' = .bool a → b' = .bool b → (eqGuard op t x y a' b').run P w = .ok () w := by
      rintro w _ _ rfl rfl
      exact run_eqGuard_none P w op t x y _ _ (fun _ _ e => by cases e) (fun e => by cases e)
    split at hK
    · next hu =>
      refine ⟨_, hK, fun κ R h w a' b' ha hb' => ?_⟩
      have e1 := val_rep (x := .bool a) rfl ha
      have e2 := val_rep (x := .bool b) rfl hb'
      subst e1; subst e2
      refine ⟨_, ?_, rep_bool _⟩
      rw [Sem.run_bind, hg w _ _ rfl rfl, Result.andThen_ok]
      exact run_eql_bool w t a b hu
    · next hu =>
      refine ⟨_, hK, fun κ R h w a' b' ha hb' => ?_⟩
      have e1 := val_rep (x := .bool a) rfl ha
      have e2 := val_rep (x := .bool b) rfl hb'
      subst e1; subst e2
      refine ⟨_, ?_, rep_bool _⟩
      rw [Sem.run_bind, hg w _ _ rfl rfl, Result.andThen_ok]
      exact run_neq_bool w t a b hu
    · cases hK
  · next a b =>
    have hagg : ∀ (b' : Bool), (eqFlat P 8 t && aggT P t == some true) = true → eqT P 8 t a b = some b' → ∀ (κ : Kap) (R : Nat → Prop) (h : Nat → Ob) (w : World) (x' y' : Value), VRep κ R h w (.s (.pagg a)) x' → VRep κ R h w (.s (.pagg b)) y' →
        (∀ o, (eqGuard o t x y x' y').run P w = .ok () w) ∧ (Op.equalIn 10000 t x' y').run P w = .ok b' w ∧ ∃ c d, x' = .agg c ∧ y' = .agg d := by
      intro b' hf he κ R h w x' y' hx hy
      obtain ⟨xs, rfl, hxs⟩ := hx
      obtain ⟨ys, rfl, hys⟩ := hy
      simp only [Bool.and_eq_true, beq_iff_eq] at hf
      have hgd : P.eqGuardType P.depth t = false := eqGuard_flat P 8 _ t (by unfold Program.depth Made.depth; omega) hf.1
      exact ⟨fun o => run_eqGuard_agg w o t x y _ _ hgd, eqT_run 8 10000 t a b xs ys b' true (by omega) he hxs hys hf.2, _, _, rfl, rfl⟩
    split at hK
    · split at hK
      · next hf =>
        simp only [Option.bind_eq_some_iff] at hK
        obtain ⟨b', he, hK⟩ := hK
        refine ⟨_, hK, fun κ R h w x' y' hx hy => ?_⟩
        obtain ⟨h1, h2, c, d, rfl, rfl⟩ := hagg b' hf he κ R h w x' y' hx hy
        refine ⟨.bool b', ?_, rep_bool _⟩
        rw [Sem.run_bind, h1, Result.andThen_ok, run_eql_struct, h2]
        rfl
      · cases hK
    · split at hK
      · next hf =>
        simp only [Option.bind_eq_some_iff] at hK
        obtain ⟨b', he, hK⟩ := hK
        refine ⟨_, hK, fun κ R h w x' y' hx hy => ?_⟩
        obtain ⟨h1, h2, c, d, rfl, rfl⟩ := hagg b' hf he κ R h w x' y' hx hy
        refine ⟨.bool (!b'), ?_, rep_bool _⟩
        rw [Sem.run_bind, h1, Result.andThen_ok, run_neq_struct, h2]
        rfl
      · cases hK
    · cases hK
  · next a b _ _ _ =>
    have hg1 : ∀ (w : World) (A : Option Addr) (l c : Nat) (y' : Value), (eqGuard op t x y (.slice A l c) y').run P w = .ok () w :=
      fun w A l c y' => run_eqGuard_none P w op t x y _ _ (fun _ _ e => by cases e) (fun e => by cases e)
    have hg2 : ∀ (w : World) (A : Option Addr) (y' : Value), (eqGuard op t x y (.pointer A) y').run P w = .ok () w :=
      fun w A y' => run_eqGuard_none P w op t x y _ _ (fun _ _ e => by cases e) (fun e => by cases e)
    split at hK
    · next e hu =>
      split at hK
      · next hb =>
        simp only [Option.bind_eq_some_iff] at hK
        obtain ⟨b', he, hK⟩ := hK
        refine ⟨_, hK, fun κ R h w x' y' hx hy => ?_⟩
        obtain ⟨A, l, c, rfl, rfl⟩ := nilSl_rep hx he
        obtain ⟨l', c', rfl⟩ := isSlNil_rep hb hy
        refine ⟨_, ?_, rep_bool _⟩
        rw [Sem.run_bind, hg1, Result.andThen_ok]
        show (do pure (.bool (← Op.equalIn 10000 t (.slice A l c) (.slice none l' c'))) : Sem Value).run P w = _
        rw [Sem.run_bind, equalIn_slice hu 9999]
        rfl
      · cases hK
    · next e hu =>
      split at hK
      · next hb =>
        simp only [Option.bind_eq_some_iff] at hK
        obtain ⟨b', he, hK⟩ := hK
        refine ⟨_, hK, fun κ R h w x' y' hx hy => ?_⟩
        obtain ⟨A, l, c, rfl, rfl⟩ := nilSl_rep hx he
        obtain ⟨l', c', rfl⟩ := isSlNil_rep hb hy
        refine ⟨_, ?_, rep_bool _⟩
        rw [Sem.run_bind, hg1, Result.andThen_ok]
        show (do pure (.bool (!(← Op.equalIn 10000 t (.slice A l c) (.slice none l' c')))) : Sem Value).run P w = _
        rw [Sem.run_bind, equalIn_slice hu 9999]
        rfl
      · cases hK
    · next e hu =>
      split at hK
      · next hb =>
        simp only [Option.bind_eq_some_iff] at hK
        obtain ⟨b', he, hK⟩ := hK
        refine ⟨_, hK, fun κ R h w x' y' hx hy => ?_⟩
        obtain ⟨A, rfl, rfl⟩ := nilPtr_rep hx he
        have := isPtrNil_rep hb hy
        subst this
        refine ⟨_, ?_, rep_bool _⟩
        rw [Sem.run_bind, hg2, Result.andThen_ok]
        show (do pure (.bool (← Op.equalIn 10000 t (.pointer A) (.pointer none))) : Sem Value).run P w = _
        rw [Sem.run_bind, equalIn_ptr hu 9999]
        rfl
      · cases hK
    · next e hu =>
      split at hK
      · next hb =>
        simp only [Option.bind_eq_some_iff] at hK
        obtain ⟨b', he, hK⟩ := hK
        refine ⟨_, hK, fun κ R h w x' y' hx hy => ?_⟩
        obtain ⟨A, rfl, rfl⟩ := nilPtr_rep hx he
        have := isPtrNil_rep hb hy
        subst this
        refine ⟨_, ?_, rep_bool _⟩
        rw [Sem.run_bind, hg2, Result.andThen_ok]
        show (do pure (.bool (!(← Op.equalIn 10000 t (.pointer A) (.pointer none)))) : Sem Value).run P w = _
        rw [Sem.run_bind, equalIn_ptr hu 9999]
        rfl
      · cases hK
    · cases hK
  · cases hK

theorem sim_binOp {op : BinOp} {t t' : TypeId} {x y : Operand} (h : aop E tm H nb ⟨dst, .binOp op t x y t', ty, pos, after, guard⟩ K = some r) : Does E tm H nb ⟨dst, .binOp op t x y t', ty, pos, after, guard⟩ K r := by
  simp only [aop, Option.bind_eq_some_iff] at h
  obtain ⟨v, hv, u, hu, hK⟩ := h
  obtain ⟨z, hz, hrun⟩ := sim_bin (x := x) (y := y) hK
  refine ⟨_, hz, .of_value fun t' h' κ R a w hal hrel => ?_⟩
  obtain ⟨c, h1, h2⟩ := hrun κ R h' w _ _ (operand_rep hrel hv (hal.opnd (by simp [Op.operands]))) (operand_rep hrel hu (hal.opnd (by simp [Op.operands])))
  refine ⟨c, ?_, h2⟩
  simp only [execOp]
  rw [Sem.run_bind, h1]
  rfl

theorem sim_unOp {op : UnOp} {t : TypeId} {x : Operand} (h : aop E tm H nb ⟨dst, .unOp op t x, ty, pos, after, guard⟩ K = some r) : Does E tm H nb ⟨dst, .unOp op t x, ty, pos, after, guard⟩ K r := by
  simp only [aop, Option.bind_eq_some_iff] at h
  obtain ⟨v, hv, hK⟩ := h
  unfold unAny at hK
  split at hK
  · next k n =>
    refine ⟨_, hK, .of_value fun t' h' κ R a w hal hrel => ⟨_, ?_, rep_ints k _⟩⟩
    have e := val_rep (x := .int k n) rfl (operand_rep hrel hv (hal.opnd (by simp [Op.operands])))
    simp [execOp, e, Op.unary, Op.intArith]
  · next b =>
    refine ⟨_, hK, .of_value fun t' h' κ R a w hal hrel => ⟨_, ?_, rep_bool _⟩⟩
    have e := val_rep (x := .bool b) rfl (operand_rep hrel hv (hal.opnd (by simp [Op.operands])))
    simp [execOp, e, Op.unary]
  · cases hK

theorem sim_nilCheck {x : Operand} (h : aop E tm H nb ⟨dst, .nilCheck x, ty, pos, after, guard⟩ K = some r) : Does E tm H nb ⟨dst, .nilCheck x, ty, pos, after, guard⟩ K r := by
  simp only [aop, Option.bind_eq_some_iff] at h
  obtain ⟨v, hv, hK⟩ := h
  split at hK
  · next c =>
    split at hK
    · next hn =>
      refine ⟨_, hK, .of_value fun t' h' κ R a w hal hrel => ?_⟩
      have hr := operand_rep hrel hv (hal.opnd (by simp [Op.operands]))
      refine ⟨a.eval x, ?_, hr⟩
      have hk : (∃ p, a.eval x = .pointer (some p)) ∨ ∃ f cs, a.eval x = .func (.func f) #[] cs := by
        exact notNil_rep hr hn
      rcases hk with ⟨p, hp⟩ | ⟨f, cs, hp⟩ <;> simp [execOp, hp]
    · cases hK
  · cases hK
end ops

end Go.Ev

namespace Go.Ev
open Go
variable {G : Nat → Option (List PC)}

section
variable {κ : Kap} {R : Nat → Prop} {h : Nat → Ob} {w : World}

theorem shift_rep {c c' : C} {n : Nat} {y : Value} (hc : CRep κ R h w c y) (hs : c.shift n = some c') : ∃ a, y = .pointer (some a) ∧ CRep κ R h w c' (.pointer (some (a.add n))) := by
  unfold C.shift at hs
  split at hs
  · cases hs
    cases hc with
    | bpDead _ _ a hd => exact ⟨a, rfl, .bpDead _ _ _ hd⟩
    | bp slot off b o s h1 h2 =>
      refine ⟨_, rfl, ?_⟩
      rw [add_none, Nat.add_assoc]
      exact .bp _ _ b o s h1 h2
  · cases hs
    cases hc with
    | apDead _ _ _ a hd => exact ⟨a, rfl, .apDead _ _ _ _ hd⟩
    | ap slot i off b o s h1 h2 =>
      refine ⟨_, rfl, ?_⟩
      rw [add_none, Nat.add_assoc]
      exact .ap _ _ _ b o s h1 h2
  · cases hs
    cases hc with
    | rp _ off b o f h1 h2 h3 =>
      refine ⟨_, rfl, ?_⟩
      rw [add_none, Nat.add_assoc]
      exact .rp _ _ b o f h1 h2 h3
  · cases hs
    cases hc with
    | p _ _ hp => cases hp; exact ⟨_, rfl, by rw [add_none]; exact .p _ _ (.v _ rfl)⟩
  · cases hs

end

section ops
variable {ρ : Type} {E : Env} {tm : List AV} {H : List Ob} {nb : Nat} {K : Out → Option ρ} {r : ρ}
variable {dst : Option Tmp} {ty : TypeId} {pos : String} {after : Array Edge} {guard : Option (Nat × Bool)}

theorem sim_fieldAddr {t : TypeId} {x : Operand} {f : Nat} (h : aop E tm H nb ⟨dst, .fieldAddr t x f, ty, pos, after, guard⟩ K = some r) : Does E tm H nb ⟨dst, .fieldAddr t x f, ty, pos, after, guard⟩ K r := by
  simp only [aop, Option.bind_eq_some_iff] at h
  obtain ⟨v, hv, hK⟩ := h
  split at hK
  · next c =>
    unfold fieldAt at hK
    split at hK
    · next fs hu =>
      simp only [Option.bind_eq_some_iff] at hK
      obtain ⟨fd, hfd, s, hs, hK⟩ := hK
      split at hK
      · cases hK
      · next hs0 =>
        simp only [Option.bind_eq_some_iff] at hK
        obtain ⟨c', hc', hK⟩ := hK
        refine ⟨_, hK, .of_value fun t' h' κ R a w hal hrel => ?_⟩
        obtain ⟨ad, had, hrep⟩ := shift_rep (operand_rep hrel hv (hal.opnd (by simp [Op.operands]))) hc'
        refine ⟨_, ?_, hrep⟩
        simp only [execOp, Instr.fieldAt, Sem.run_bind, run_underlying' hu, Result.andThen_ok, hfd, had, Instr.sureAddr, Sem.run_pure, fieldPlace, run_sizeOf' hs, if_neg hs0]
    · cases hK
  · cases hK

theorem asIntOf_int (P : Program) (w : World) (k : IntKind) (n : Int) : (asIntOf (.int k n)).run P w = .ok (k, n) w := rfl

theorem sim_indexAddr {t : TypeId} {x i : Operand} (h : aop E tm H nb ⟨dst, .indexAddr t x i, ty, pos, after, guard⟩ K = some r) : Does E tm H nb ⟨dst, .indexAddr t x i, ty, pos, after, guard⟩ K r := by
  simp only [aop, Option.bind_eq_some_iff] at h
  obtain ⟨v, hv, u, hu, iv, hiv, hK⟩ := h
  split at hK
  · next c k n =>
    have hidx : ∀ {out : Out} {t' : Nat → AV} {h' : Nat → Ob} {κ : Kap} {R : Nat → Prop} {a : Act} {w : World}, Alike ⟨dst, .indexAddr t x i, ty, pos, after, guard⟩ tm.length (tget tm) t' (hget H) h' nb out → Rel E.G κ R tm.length t' h' a w →
        CRep κ R h' w c (a.eval x) ∧ a.eval i = .int k n := fun hal hrel =>
      ⟨operand_rep hrel hv (hal.opnd (by simp [Op.operands])), val_rep hiv (operand_rep hrel hu (hal.opnd (by simp [Op.operands])))⟩
    unfold indexAt at hK
    split at hK
    · next e hut =>
      simp only [Option.bind_eq_some_iff] at hK
      obtain ⟨s, hs, hK⟩ := hK
      split at hK
      · next s' nn es =>
        split at hK
        · next hss =>
          subst hss
          by_cases hn : 0 ≤ n
          · simp only [hn, decide_true, cond_true, Option.bind_eq_some_iff] at hK
            obtain ⟨el, hel, hK⟩ := hK
            refine ⟨_, hK, .of_value fun t' h' κ R a w hal hrel => ?_⟩
            obtain ⟨hc, hi⟩ := hidx hal hrel
            generalize hx : a.eval x = z at hc
            cases hc with
            | p _ _ hp =>
              cases hp with
              | sl _ _ _ A len cap f b o h1 h2 h3 h4 h5 h6 h7 =>
                have hne : es ≠ [] := by rintro rfl; simp at hel
                obtain ⟨hA, hRb⟩ := h5 hne
                subst hA; subst h1
                have hlt : n.toNat < es.length := (List.getElem?_eq_some_iff.1 hel).1
                refine ⟨.pointer (some ⟨b, o + n.toNat * s, none⟩), ?_, ?_⟩
                · have hin : 0 ≤ n ∧ n < (es.length : Int) := ⟨hn, by omega⟩
                  simp only [execOp, Instr.indexAt, hi, hx, Sem.run_bind, asIntOf_int, Result.andThen_ok, run_underlying' hut, Sem.run_pure, if_pos hin, run_sizeOf' hs, add_none]
                · obtain ⟨hl, hcell⟩ := h6 n.toNat el hel
                  have := CRep.rp (κ := κ) (R := R) (h := h') (w := w) el 0 b (o + n.toNat * s) (f n.toNat) hRb (fun j c hj => hcell j (by rw [← hl]; exact (List.getElem?_eq_some_iff.1 hj).1)) (fun j c hj => h7 n.toNat el j c hel hj)
                  show CRep κ R h' w (.rp el 0) _
                  simpa using this
          · simp [hn] at hK
        · cases hK
      · next slot off len =>
        split at hK
        · next s' fz es hob =>
          split at hK
          · next hss =>
            obtain ⟨hss, hlen⟩ := hss
            subst hss
            by_cases hn : 0 ≤ n ∧ n < (len : Int)
            · simp only [hn.1, hn.2, decide_true, Bool.and_true, cond_true] at hK
              refine ⟨_, hK, .of_value fun t' h' κ R a w hal hrel => ?_⟩
              obtain ⟨hc, hi⟩ := hidx hal hrel
              have hsl : h' slot = .arr s fz es := by
                have := hal.regs (.obj slot) (by simp)
                simp only [Reg.getF, RegValF.obj.injEq] at this
                rw [this]; simp [hget, hob]
              generalize hx : a.eval x = z at hc
              cases hc with
              | ownDead _ _ _ _ hd => rw [hsl] at hd; cases hd
              | own _ _ _ cap A s0 hst hl hA hcap =>
                rw [hsl] at hst; simp only [Ob.stride, Option.some.injEq] at hst; subst hst
                rcases hcap with h0 | ⟨b, o, hk, hAe, hcells⟩
                · omega
                · subst hAe
                  refine ⟨.pointer (some ⟨b, o + (off + n.toNat) * s + 0, none⟩), ?_, .ap _ _ _ b o s (by rw [hsl]; rfl) hk⟩
                  have hin : 0 ≤ n ∧ n < (len : Int) := hn
                  simp only [execOp, Instr.indexAt, hi, hx, Sem.run_bind, asIntOf_int, Result.andThen_ok, run_underlying' hut, Sem.run_pure, if_pos hin, run_sizeOf' hs, add_none]
                  simp [Nat.add_mul, Nat.add_assoc]
            · exfalso
              have : (decide (0 ≤ n) && decide (n < (len : Int))) = false := by simp; omega
              rw [this] at hK; cases hK
          · cases hK
        · next s' cs hob =>
          split at hK
          · next hss =>
            subst hss
            by_cases hn : 0 ≤ n ∧ n < (len : Int)
            · simp only [hn.1, hn.2, decide_true, Bool.and_true, cond_true] at hK
              refine ⟨_, hK, .of_value fun t' h' κ R a w hal hrel => ?_⟩
              obtain ⟨hc, hi⟩ := hidx hal hrel
              have hsl : h' slot = .box s cs := by
                have := hal.regs (.obj slot) (by simp)
                simp only [Reg.getF, RegValF.obj.injEq] at this
                rw [this]; simp [hget, hob]
              generalize hx : a.eval x = z at hc
              cases hc with
              | ownDead _ _ _ _ hd => rw [hsl] at hd; cases hd
              | own _ _ _ cap A s0 hst hl hA hcap =>
                rw [hsl] at hst; simp only [Ob.stride, Option.some.injEq] at hst; subst hst
                rcases hcap with h0 | ⟨b, o, hk, hAe, hcells⟩
                · omega
                · subst hAe
                  refine ⟨.pointer (some ⟨b, o + (off + n.toNat) * s, none⟩), ?_, .bp _ _ b o s (by rw [hsl]; rfl) hk⟩
                  have hin : 0 ≤ n ∧ n < (len : Int) := hn
                  simp only [execOp, Instr.indexAt, hi, hx, Sem.run_bind, asIntOf_int, Result.andThen_ok, run_underlying' hut, Sem.run_pure, if_pos hin, run_sizeOf' hs, add_none]
                  simp [Nat.add_mul, Nat.add_assoc]
            · exfalso
              have : (decide (0 ≤ n) && decide (n < (len : Int))) = false := by simp; omega
              rw [this] at hK; cases hK
          · cases hK
        · cases hK
      · cases hK
    · next len e hut =>
      simp only [Option.bind_eq_some_iff] at hK
      obtain ⟨s, hs, hK⟩ := hK
      by_cases hn : 0 ≤ n ∧ n < (len : Int)
      · simp only [hn.1, hn.2, decide_true, Bool.and_true, cond_true, Option.bind_eq_some_iff] at hK
        obtain ⟨c', hc', hK⟩ := hK
        refine ⟨_, hK, .of_value fun t' h' κ R a w hal hrel => ?_⟩
        obtain ⟨hc, hi⟩ := hidx hal hrel
        obtain ⟨ad, had, hrep⟩ := shift_rep hc hc'
        refine ⟨_, ?_, hrep⟩
        have hin : 0 ≤ n ∧ n < (len : Int) := hn
        simp only [execOp, Instr.indexAt, hi, had, Sem.run_bind, asIntOf_int, Result.andThen_ok, run_underlying' hut, Instr.sureAddr, Sem.run_pure, if_pos hin, run_sizeOf' hs]
      · exfalso
        have : (decide (0 ≤ n) && decide (n < (len : Int))) = false := by simp; omega
        rw [this] at hK; cases hK
    · cases hK
  · cases hK

end ops
section
variable {κ : Kap} {R : Nat → Prop} {h : Nat → Ob} {w : World}

theorem dec_rep {k : Kind} {c : PC} {x : k.T} {y : Value} (hd : k.dec c = some x) (hc : PRep R w c y) : PRep R w (k.enc x) y := by
  unfold Kind.dec at hd
  split at hd
  · next k k' n =>
    split at hd
    · next hk => subst hk; cases hd; exact hc
    · cases hd
  · cases hd; exact hc
  · cases hd; exact hc
  · next s s' nn es =>
    split at hd
    · next hs =>
      subst hs; cases hd
      cases hc with
      | sl _ _ _ A len cap f b o h1 h2 h3 h4 h5 h6 h7 => exact .sl s false es A len cap f b o h1 h2 (fun e => by cases e) h4 h5 h6 h7
    · cases hd
  · next s =>
    cases hd
    cases hc
    exact .sl s false [] none 0 0 (fun _ _ => undef) 0 0 rfl (Nat.le_refl _) (fun e => by cases e) (fun _ => rfl) (fun e => absurd rfl e) (fun i e he => by simp at he) (fun i e j c he => by simp at he)
  · cases hd; exact hc
  · cases hd

theorem decs_rep : ∀ {ks : List Kind} {cs : List PC} {t : Tup ks} {ys : List Value}, decs ks cs = some t → PReps R w cs ys → PReps R w (encs ks t) ys
  | [], [], _, ys, _, hc => hc
  | [], _ :: _, _, _, h, _ => by cases h
  | _ :: _, [], _, _, h, _ => by cases h
  | k :: ks, c :: cs, t, ys, h, hc => by
    simp only [decs, Option.bind_eq_some_iff] at h
    obtain ⟨x, hx, t', ht', h3⟩ := h
    cases h3
    match ys, hc.1 with
    | y :: ys, hl =>
      have hrest : PReps R w cs ys := ⟨by simpa using hl, fun i c' y' h1 h2 => hc.2 (i + 1) c' y' (by simpa using h1) (by simpa using h2)⟩
      obtain ⟨e1, e2⟩ := decs_rep ht' hrest
      refine ⟨by simp only [encs, List.length_cons]; exact congrArg (· + 1) e1, fun i c' y' h1 h2 => ?_⟩
      cases i with
      | zero =>
        simp only [encs, List.getElem?_cons_zero, Option.some.injEq] at h1 h2
        subst h1; subst h2
        exact dec_rep hx (hc.2 0 c y rfl rfl)
      | succ i => exact e2 i c' y' (by simpa [encs] using h1) (by simpa using h2)

theorem decs_length : ∀ {ks : List Kind} {cs : List PC} {t : Tup ks}, decs ks cs = some t → cs.length = ks.length
  | [], [], _, _ => rfl
  | [], _ :: _, _, h => by cases h
  | _ :: _, [], _, h => by cases h
  | k :: ks, c :: cs, t, h => by
    simp only [decs, Option.bind_eq_some_iff] at h
    obtain ⟨x, hx, t', ht', h3⟩ := h
    cases h3
    simp [decs_length ht']

/-- Values of cells, one after the other. -/
theorem choose_vals {α : Type} {Q : α → Value → Prop} : ∀ (cs : List α) (f : Nat → Option Value), (∀ j c, cs[j]? = some c → ∃ y, f j = some y ∧ Q c y) →
    ∃ ys : List Value, ys.length = cs.length ∧ (∀ (j : Nat) (y : Value), ys[j]? = some y → f j = some y) ∧ ∀ (j : Nat) (c : α) (y : Value), cs[j]? = some c → ys[j]? = some y → Q c y
  | [], f, _ => ⟨[], rfl, fun j y h => by simp at h, fun j c y h => by simp at h⟩
  | c :: cs, f, h => by
    obtain ⟨y, hy, hq⟩ := h 0 c rfl
    obtain ⟨ys, h1, h2, h3⟩ := choose_vals cs (fun j => f (j + 1)) (fun j c' hc => h (j + 1) c' (by simpa using hc))
    refine ⟨y :: ys, by simp [h1], fun j z hz => ?_, fun j c' z hc hz => ?_⟩
    · cases j with
      | zero => simp only [List.getElem?_cons_zero, Option.some.injEq] at hz; subst hz; exact hy
      | succ j => exact h2 j z (by simpa using hz)
    · cases j with
      | zero => simp only [List.getElem?_cons_zero, Option.some.injEq] at hz hc; subst hz; subst hc; exact hq
      | succ j => exact h3 j c' z (by simpa using hc) (by simpa using hz)

theorem run_loadVar {P : Program} {t : TypeId} {n : Nat} {agg : Bool} (hn : szOf P t = some n) (ha : aggT P t = some agg) {b o : Nat} {ys : List Value} (hl : ys.length = n) (h1 : agg = false → n = 1)
    (hc : ∀ (j : Nat) (y : Value), ys[j]? = some y → w.cell? ⟨b, o + j, none⟩ = some y) : (loadVar t ⟨b, o, none⟩).run P w = .ok (valOf agg ys) w := by
  unfold loadVar
  rw [Sem.run_bind, run_isAgg' ha, Result.andThen_ok]
  cases agg with
  | true =>
    simp only [if_true, Sem.run_bind, run_sizeOf' hn, Result.andThen_ok]
    rw [← hl, run_loadCells P w b o ys hc]
    rfl
  | false =>
    have := h1 rfl
    subst this
    match ys, hl with
    | [y], _ =>
      have := hc 0 y rfl
      simp only [Nat.add_zero] at this
      simp [this, valOf]

theorem mkP_rep {agg : Bool} {cs : List PC} {v : SV} (hv : mkP agg cs = some v) {ys : List Value} (hr : PReps R w cs ys) : SRep κ R h w v (valOf agg ys) ∧ (agg = false → cs.length = 1) := by
  unfold mkP at hv
  split at hv
  · cases hv; exact ⟨⟨ys, rfl, hr⟩, fun e => by cases e⟩
  · cases hv
    obtain ⟨y, rfl, hy⟩ := hr.one
    exact ⟨.p _ _ hy, fun _ => rfl⟩
  · cases hv

theorem takeP_rep {ρ : Type} {E : Env} {t : TypeId} {n : Nat} {agg : Bool} {e : List PC} {off : Nat} {K : SV → Option ρ} {r : ρ} (h : takeP E t n agg e off K = some r) (hn : szOf E.P t = some n) (ha : aggT E.P t = some agg) :
    ∃ v, K v = some r ∧ ∀ (κ : Kap) (R : Nat → Prop) (h : Nat → Ob) (w : World) (b o : Nat), (∀ (j : Nat) (c : PC), e[j]? = some c → ∃ y, w.cell? ⟨b, o + j, none⟩ = some y ∧ PRep R w c y) →
      ∃ y, (loadVar t ⟨b, o + off, none⟩).run E.P w = .ok y w ∧ SRep κ R h w v y := by
  unfold takeP at h
  simp only [Option.bind_eq_some_iff] at h
  obtain ⟨ks, hks, h⟩ := h
  split at h
  · next hlen =>
    simp only [Option.bind_eq_some_iff] at h
    obtain ⟨tup, htup, v, hv, hK⟩ := h
    refine ⟨v, hK, fun κ R h w b o hc => ?_⟩
    have hl := decs_length htup
    obtain ⟨ys, hys1, hys2, hys3⟩ := choose_vals (Q := PRep R w) ((e.drop off).take n) (fun j => w.cell? ⟨b, o + off + j, none⟩) (fun j c hj => by
      rw [List.getElem?_take] at hj
      split at hj
      · rw [List.getElem?_drop] at hj
        obtain ⟨y, hy, hr⟩ := hc _ c hj
        exact ⟨y, by rw [Nat.add_assoc]; exact hy, hr⟩
      · cases hj)
    have hreps : PReps R w (encs ks tup) ys := decs_rep htup ⟨hys1.symm, hys3⟩
    obtain ⟨hs, h1⟩ := mkP_rep (κ := κ) (h := h) hv hreps
    have hyl : ys.length = n := by rw [hys1, hl, hlen]
    refine ⟨_, run_loadVar hn ha hyl (fun e => by rw [← hyl, ← hreps.1]; exact h1 e) hys2, hs⟩
  · cases h

theorem pcs_rep : ∀ {cs : List C} {l : List PC}, pcs cs = some l → cs = l.map .p
  | [], l, h => by simp [pcs] at h; subst h; rfl
  | c :: cs, l, h => by
    simp only [pcs, List.mapM_cons, bind, Option.bind_eq_some_iff, pure, Option.some.injEq] at h
    obtain ⟨x, hx, l', hl', rfl⟩ := h
    have := pcs_rep (cs := cs) (l := l') hl'
    rw [this]
    cases c <;> simp [C.pc] at hx
    subst hx; rfl

theorem creps_map {l : List PC} {ys : List Value} : CReps κ R h w (l.map .p) ys ↔ PReps R w l ys := by
  refine ⟨fun hc => ⟨by simpa using hc.1, fun i c y h1 h2 => ?_⟩, fun hp => ⟨by simpa using hp.1, fun i c y h1 h2 => ?_⟩⟩
  · have := hc.2 i (.p c) y (by simp [h1]) h2
    cases this with | p _ _ hp => exact hp
  · rw [List.getElem?_map] at h1
    cases hl : l[i]? with
    | none => rw [hl] at h1; cases h1
    | some x => rw [hl] at h1; cases h1; exact .p _ _ (hp.2 i x y hl h2)

theorem mkC_rep {agg : Bool} {cs : List C} {v : SV} (hv : mkC agg cs = some v) {ys : List Value} (hr : CReps κ R h w cs ys) : SRep κ R h w v (valOf agg ys) ∧ (agg = false → cs.length = 1) := by
  unfold mkC at hv
  split at hv
  · cases hv
    refine ⟨?_, fun e => by cases e⟩
    split
    · next l hl =>
      have := pcs_rep hl
      subst this
      exact ⟨ys, rfl, creps_map.1 hr⟩
    · exact ⟨ys, rfl, hr⟩
  · next c =>
    cases hv
    match ys, hr.1 with
    | [y], _ => exact ⟨hr.2 0 c y rfl rfl, fun _ => rfl⟩
  · cases hv

theorem boxGetF_get {H : List Ob} {slot off n : Nat} : boxGetF (hget H) slot off n = boxGet H slot off n := by
  unfold boxGetF boxGet hget
  cases hs : H[slot]? with
  | none => rfl
  | some ob => cases ob <;> rfl

end

section ops
variable {ρ : Type} {E : Env} {tm : List AV} {H : List Ob} {nb : Nat} {K : Out → Option ρ} {r : ρ}
variable {dst : Option Tmp} {ty : TypeId} {pos : String} {after : Array Edge} {guard : Option (Nat × Bool)}

/-- What a load comes to. -/
theorem loadAt_rep {t : TypeId} {c : C} {K : SV → List Reg → Option ρ} (h : loadAt E H t c K = some r) :
    ∃ v rd, K v rd = some r ∧ ∀ (h' : Nat → Ob) (κ : Kap) (R : Nat → Prop) (w : World) (x : Value), (∀ q ∈ rd, q.getF h' = q.getF (hget H)) → HRep E.G κ R h' w → CRep κ R h' w c x →
      ∃ y, (Instr.loadAt t x).run E.P w = .ok y w ∧ SRep κ R h' w v y := by
  unfold loadAt at h
  simp only [Option.bind_eq_some_iff] at h
  obtain ⟨n, hn, agg, ha, h⟩ := h
  split at h
  · next slot off =>
    simp only [Option.bind_eq_some_iff] at h
    obtain ⟨cs, hcs, v, hv, hK⟩ := h
    refine ⟨v, _, hK, fun h' κ R w x hrd hH hc => ?_⟩
    have hbox : boxGetF h' slot off n = some cs := by
      have := hrd (.box slot off n) (by simp)
      simp only [Reg.getF, RegValF.box.injEq] at this
      rw [this, boxGetF_get, hcs]
    unfold boxGetF at hbox
    split at hbox
    · next s cs0 hob =>
      split at hbox
      · next hlen =>
        cases hbox
        cases hc with
        | bpDead _ _ _ hd => rw [hob] at hd; cases hd
        | bp _ _ b o s hst hk =>
          have hobr := hH.obs slot
          rw [hob] at hobr
          obtain ⟨b', o', c, t', fr, h1, h2, h3, h4, h5, h6⟩ := hobr
          rw [hk] at h1; cases h1
          obtain ⟨ys, hys1, hys2, hys3⟩ := choose_vals (Q := CRep κ R h' w) ((cs0.drop off).take n) (fun j => w.cell? ⟨b, o + off + j, none⟩) (fun j x hj => by
            rw [List.getElem?_take] at hj
            split at hj
            · rw [List.getElem?_drop] at hj
              obtain ⟨y, hy, hr⟩ := h6 _ x hj
              exact ⟨y, by rw [cell_of_cells h2, ← hy]; congr 1; omega, hr⟩
            · cases hj)
          have hyl : ys.length = n := by rw [hys1]; simp; omega
          obtain ⟨hs, h1⟩ := mkC_rep hv (ys := ys) ⟨hys1.symm, hys3⟩
          refine ⟨_, ?_, hs⟩
          simp only [Instr.loadAt, Instr.sureAddr, Sem.run_bind, Sem.run_pure, Result.andThen_ok]
          exact run_loadVar hn ha hyl (fun e => by rw [← hyl, hys1]; exact h1 e) hys2
      · cases hbox
    · cases hbox
  · next slot i off =>
    split at h
    · next s fz es hob =>
      simp only [Option.bind_eq_some_iff] at h
      obtain ⟨e, he, h⟩ := h
      obtain ⟨v, hK, hv⟩ := takeP_rep h hn ha
      refine ⟨v, _, hK, fun h' κ R w x hrd hH hc => ?_⟩
      have hsl : h' slot = .arr s fz es := by
        have := hrd (.obj slot) (by simp)
        simp only [Reg.getF, RegValF.obj.injEq] at this
        rw [this]; simp [hget, hob]
      cases hc with
      | apDead _ _ _ _ hd => rw [hsl] at hd; cases hd
      | ap _ _ _ b o s0 hst hk =>
        rw [hsl] at hst; simp only [Ob.stride, Option.some.injEq] at hst; subst hst
        have hobr := hH.obs slot
        rw [hsl] at hobr
        rcases hobr with ⟨h1, h2⟩ | ⟨b', o', c, t', fr, h1, h2, h3, h4, h5, h6, h7⟩
        · rw [hk] at h1; cases h1
        · rw [hk] at h1; cases h1
          obtain ⟨y, hy, hs⟩ := hv κ R h' w b (o + i * s) (fun j c' hj => by
            obtain ⟨y, hy, hr⟩ := (h7 i e he).2 j c' hj
            exact ⟨y, by rw [cell_of_cells h2]; exact hy, hr⟩)
          exact ⟨y, by simp only [Instr.loadAt, Instr.sureAddr, Sem.run_bind, Sem.run_pure, Result.andThen_ok]; exact hy, hs⟩
    · cases h
  · next e off =>
    obtain ⟨v, hK, hv⟩ := takeP_rep h hn ha
    refine ⟨v, _, hK, fun h' κ R w x hrd hH hc => ?_⟩
    cases hc with
    | rp _ _ b o f h1 h2 h3 =>
      obtain ⟨y, hy, hs⟩ := hv κ R h' w b o (fun j c hj => ⟨f j, h2 j c hj, h3 j c hj⟩)
      exact ⟨y, by simp only [Instr.loadAt, Instr.sureAddr, Sem.run_bind, Sem.run_pure, Result.andThen_ok]; exact hy, hs⟩
  · next g off =>
    simp only [Option.bind_eq_some_iff] at h
    obtain ⟨e, he, h⟩ := h
    obtain ⟨v, hK, hv⟩ := takeP_rep h hn ha
    refine ⟨v, _, hK, fun h' κ R w x hrd hH hc => ?_⟩
    cases hc with
    | p _ _ hp =>
      cases hp
      obtain ⟨hRg, hg⟩ := hH.glob g e he
      obtain ⟨y, hy, hs⟩ := hv κ R h' w g 0 (fun j c hj => by simpa using hg j c hj)
      rw [Nat.zero_add] at hy
      exact ⟨y, by simp only [Instr.loadAt, Instr.sureAddr, Sem.run_bind, Sem.run_pure, Result.andThen_ok]; exact hy, hs⟩
  · cases h

theorem sim_load {t : TypeId} {x : Operand} (h : aop E tm H nb ⟨dst, .load t x, ty, pos, after, guard⟩ K = some r) : Does E tm H nb ⟨dst, .load t x, ty, pos, after, guard⟩ K r := by
  simp only [aop, Option.bind_eq_some_iff] at h
  obtain ⟨v, hv, hK⟩ := h
  split at hK
  · next c =>
    obtain ⟨sv, rd, hK, hld⟩ := loadAt_rep hK
    refine ⟨_, hK, .of_value fun t' h' κ R a w hal hrel => ?_⟩
    obtain ⟨y, hy, hs⟩ := hld h' κ R w _ hal.regs hrel.heap (operand_rep hrel hv (hal.opnd (by simp [Op.operands])))
    exact ⟨y, by simp only [execOp, Sem.run_bind, hy, Result.andThen_ok, Sem.run_pure], hs⟩
  · cases hK
end ops
end Go.Ev

namespace Go.Ev
open Go
variable {G : Nat → Option (List PC)}

section
variable {κ : Kap} {R : Nat → Prop} {h : Nat → Ob} {w : World}

theorem CReps.drop {xs : List C} {vs : List Value} (hr : CReps κ R h w xs vs) (off n : Nat) : CReps κ R h w ((xs.drop off).take n) ((vs.drop off).take n) := by
  refine ⟨by simp [hr.1], fun i c y hc hy => ?_⟩
  rw [List.getElem?_take] at hc hy
  split at hc
  · next hi => rw [if_pos hi] at hy; rw [List.getElem?_drop] at hc hy; exact hr.2 _ c y hc hy
  · cases hc

theorem partOf_rep {E : Env} {t : TypeId} {x : AV} {off : Nat} {v : SV} {y : Value} (hp : partOf E t x off = some v) (hx : VRep κ R h w x y) :
    ∃ cs : List Value, y = .agg cs.toArray ∧ ∃ z, (part t cs.toArray off).run E.P w = .ok z w ∧ SRep κ R h w v z := by
  unfold partOf at hp
  simp only [Option.bind_eq_some_iff] at hp
  obtain ⟨n, hn, agg, ha, hp⟩ := hp
  split at hp
  · next cs =>
    split at hp
    · next hlen =>
      obtain ⟨ys, rfl, hys⟩ := hx
      obtain ⟨h1, h2⟩ := mkP_rep (κ := κ) (h := h) hp (hys.drop off n)
      refine ⟨ys, rfl, _, part_val ha hn (by rw [← hys.1]; exact hlen) (fun e => by have := h2 e; simp at this; omega), h1⟩
    · cases hp
  · next cs =>
    split at hp
    · next hlen =>
      obtain ⟨ys, rfl, hys⟩ := hx
      obtain ⟨h1, h2⟩ := mkC_rep hp (CReps.drop hys off n)
      refine ⟨ys, rfl, _, part_val ha hn (by rw [← hys.1]; exact hlen) (fun e => by have := h2 e; simp at this; omega), h1⟩
    · cases hp
  · cases hp
end

section ops
variable {ρ : Type} {E : Env} {tm : List AV} {H : List Ob} {nb : Nat} {K : Out → Option ρ} {r : ρ}
variable {dst : Option Tmp} {ty : TypeId} {pos : String} {after : Array Edge} {guard : Option (Nat × Bool)}

theorem sim_field {t : TypeId} {x : Operand} {f : Nat} (h : aop E tm H nb ⟨dst, .field t x f, ty, pos, after, guard⟩ K = some r) : Does E tm H nb ⟨dst, .field t x f, ty, pos, after, guard⟩ K r := by
  simp only [aop, Option.bind_eq_some_iff] at h
  obtain ⟨v, hv, hK⟩ := h
  split at hK
  · next fs hu =>
    simp only [Option.bind_eq_some_iff] at hK
    obtain ⟨fd, hfd, z, hz, hK⟩ := hK
    refine ⟨_, hK, .of_value fun t' h' κ R a w hal hrel => ?_⟩
    obtain ⟨cs, hcs, y, hy, hs⟩ := partOf_rep hz (operand_rep hrel hv (hal.opnd (by simp [Op.operands])))
    refine ⟨y, ?_, hs⟩
    simp only [execOp, Instr.field, Sem.run_bind, run_underlying' hu, Result.andThen_ok, hfd, hcs, asAgg, Sem.run_pure, hy]
  · cases hK

theorem byte_get {s : ByteArray} {i : Nat} {b : UInt8} (h : s.data.toList[i]? = some b) : s[i]? = some b := by
  obtain ⟨d⟩ := s
  obtain ⟨hlt, hb⟩ := List.getElem?_eq_some_iff.1 h
  have hlt' : i < (⟨d⟩ : ByteArray).size := by simpa [ByteArray.size] using hlt
  rw [getElem?_pos _ i hlt']
  simp only [Option.some.injEq]
  rw [← hb]
  rfl

theorem sim_index {t : TypeId} {x i : Operand} (h : aop E tm H nb ⟨dst, .index t x i, ty, pos, after, guard⟩ K = some r) : Does E tm H nb ⟨dst, .index t x i, ty, pos, after, guard⟩ K r := by
  simp only [aop, Option.bind_eq_some_iff] at h
  obtain ⟨v, hv, u, hu, iv, hiv, hK⟩ := h
  split at hK
  · next s k n hut =>
    by_cases hn : 0 ≤ n
    · simp only [hn, decide_true, cond_true, Option.bind_eq_some_iff] at hK
      obtain ⟨b, hb, hK⟩ := hK
      refine ⟨_, hK, .of_value fun t' h' κ R a w hal hrel => ?_⟩
      have h1 := val_rep (x := .string s) rfl (operand_rep hrel hv (hal.opnd (by simp [Op.operands])))
      have h2 := val_rep hiv (operand_rep hrel hu (hal.opnd (by simp [Op.operands])))
      refine ⟨.int .u8 b.toNat, ?_, rep_ints .u8 _⟩
      simp only [execOp, Instr.index, h1, h2, Sem.run_bind, asIntOf_int, Result.andThen_ok, run_underlying' hut, if_pos hn, byte_get hb, Sem.run_pure]
    · simp [hn] at hK
  · next v k n len e hut =>
    simp only [Option.bind_eq_some_iff] at hK
    obtain ⟨s, hs, hK⟩ := hK
    by_cases hn : 0 ≤ n ∧ n < (len : Int)
    · simp only [hn.1, hn.2, decide_true, Bool.and_true, cond_true, Option.bind_eq_some_iff] at hK
      obtain ⟨z, hz, hK⟩ := hK
      refine ⟨_, hK, .of_value fun t' h' κ R a w hal hrel => ?_⟩
      obtain ⟨cs, hcs, y, hy, hsr⟩ := partOf_rep hz (operand_rep hrel hv (hal.opnd (by simp [Op.operands])))
      have h2 := val_rep hiv (operand_rep hrel hu (hal.opnd (by simp [Op.operands])))
      refine ⟨y, ?_, hsr⟩
      simp only [execOp, Instr.index, hcs, h2, Sem.run_bind, asIntOf_int, Result.andThen_ok, run_underlying' hut, if_pos hn, run_sizeOf' hs, hy, Sem.run_pure]
    · exfalso
      have : (decide (0 ≤ n) && decide (n < (len : Int))) = false := by simp; omega
      rw [this] at hK; cases hK
  · cases hK

/-- An optional bound. -/
theorem optI_val {κ : Kap} {R : Nat → Prop} {t' : Nat → AV} {h' : Nat → Ob} {a : Act} {w : World} (hrel : Rel E.G κ R tm.length t' h' a w) {x : Option Operand} {n : Option Int} (hx : optI tm x = some n)
    (hal : ∀ y, x = some y → ∀ t, y = .tmp t → t' t = tget tm t) : (x = none ∧ n = none) ∨ ∃ y k m, x = some y ∧ n = some m ∧ a.eval y = .int k m := by
  cases x with
  | none => simp only [optI, Option.some.injEq] at hx; exact .inl ⟨rfl, hx.symm⟩
  | some y =>
    simp only [optI, Option.bind_eq_some_iff] at hx
    obtain ⟨v, hv, u, hu, hx⟩ := hx
    cases u with
    | int k m => simp only [Option.some.injEq] at hx; exact .inr ⟨y, k, m, rfl, hx.symm, val_rep hu (operand_rep hrel hv (hal y rfl))⟩
    | _ => cases hx

theorem run_bounds {P : Program} {w : World} {isSlice : Bool} {len cap : Nat} {lo hi : Option Value} {l h : Option Int}
    (hlo : (lo = none ∧ l = none) ∨ ∃ k m, lo = some (.int k m) ∧ l = some m) (hhi : (hi = none ∧ h = none) ∨ ∃ k m, hi = some (.int k m) ∧ h = some m)
    (h1 : 0 ≤ l.getD 0) (h2 : l.getD 0 ≤ h.getD len) (h3 : h.getD len ≤ cap ∨ h = none) : (Instr.sliceBounds isSlice len cap lo hi none).run P w = .ok ((l.getD 0).toNat, (h.getD len).toNat, cap) w := by
  unfold Instr.sliceBounds
  rcases hhi with ⟨rfl, rfl⟩ | ⟨kh, mh, rfl, rfl⟩
  · rcases hlo with ⟨rfl, rfl⟩ | ⟨kl, ml, rfl, rfl⟩
    · simp
    · simp only [Option.getD_some, Option.getD_none] at h1 h2
      simp [Instr.sliceBound, asIntOf_int, h1, h2]
  · simp only [Option.getD_some, reduceCtorEq, or_false] at h3 h2
    have hh0 : 0 ≤ mh := by omega
    rcases hlo with ⟨rfl, rfl⟩ | ⟨kl, ml, rfl, rfl⟩
    · simp [Instr.sliceBound, asIntOf_int, hh0, h3]
    · simp only [Option.getD_some] at h1 h2
      have : ml ≤ (mh.toNat : Int) := by omega
      simp [Instr.sliceBound, asIntOf_int, hh0, h3, h1]
      intro hx; omega

theorem adopt_nil {G : Nat → Option (List PC)} {κ : Kap} {R : Nat → Prop} {h : Nat → Ob} {w : World} (hH : HRep G κ R h w) {nb : Nat} (hv : h nb = .void) (s : Nat) :
    HRep G (updN κ nb none) R (updN h nb (.arr s false [])) w ∧ Ext κ R h w (updN κ nb none) R (updN h nb (.arr s false [])) w := by
  have hext : Ext κ R h w (updN κ nb none) R (updN h nb (.arr s false [])) w := ⟨fun _ hx => hx, fun _ _ => rfl, fun b c t fr hb => ⟨c, fr, hb, rfl⟩, fun i => by
    by_cases hs : i = nb
    · exact .inl (by rw [hs]; exact hv)
    · by_cases hd : h i = .dead
      · exact .inr (.inl (by simp [updN, hs, hd]))
      · exact .inr (.inr ⟨by simp [updN, hs], by simp [updN, hs], hd⟩)⟩
  refine ⟨hH.step hext (fun i => i = nb) (fun i hs => ⟨by simp [updN, hs], by simp [updN, hs], fun _ _ _ _ => rfl, fun hl b o hk => (hH.obs i).notR hl hk⟩) (fun i hs => by subst hs; exact (show ObRep _ _ _ _ _ (updN h i (.arr s false []) i) by simp only [updN, if_true]; exact .inl ⟨by simp [updN], rfl⟩))
    (fun i j b o o' hi hl1 hl2 hk1 hk2 => ?_) hH.old, hext⟩
  subst hi
  simp [updN] at hk1

theorem sim_slice {t : TypeId} {x : Operand} {lo hi mx : Option Operand} (h : aop E tm H nb ⟨dst, .slice t x lo hi mx, ty, pos, after, guard⟩ K = some r) : Does E tm H nb ⟨dst, .slice t x lo hi mx, ty, pos, after, guard⟩ K r := by
  simp only [aop, Option.bind_eq_some_iff] at h
  obtain ⟨v, hv, l, hl, hh, hhi, m, hm, hK⟩ := h
  have hb : ∀ {out : Out} {t' : Nat → AV} {h' : Nat → Ob} {κ : Kap} {R : Nat → Prop} {a : Act} {w : World}, Alike ⟨dst, .slice t x lo hi mx, ty, pos, after, guard⟩ tm.length (tget tm) t' (hget H) h' nb out → Rel E.G κ R tm.length t' h' a w →
      VRep κ R h' w v (a.eval x) ∧ ((lo.map a.eval = none ∧ l = none) ∨ ∃ k m, lo.map a.eval = some (.int k m) ∧ l = some m) ∧ ((hi.map a.eval = none ∧ hh = none) ∨ ∃ k m, hi.map a.eval = some (.int k m) ∧ hh = some m) ∧ (m = none → mx = none) := by
    intro out t' h' κ R a w hal hrel
    refine ⟨operand_rep hrel hv (hal.opnd (by simp [Op.operands])), ?_, ?_, ?_⟩
    · rcases optI_val hrel hl (fun y hy => hal.opnd (by simp [Op.operands, hy])) with ⟨h1, h2⟩ | ⟨y, k, n, h1, h2, h3⟩
      · exact .inl ⟨by rw [h1]; rfl, h2⟩
      · exact .inr ⟨k, n, by rw [h1]; simp [h3], h2⟩
    · rcases optI_val hrel hhi (fun y hy => hal.opnd (by simp [Op.operands, hy])) with ⟨h1, h2⟩ | ⟨y, k, n, h1, h2, h3⟩
      · exact .inl ⟨by rw [h1]; rfl, h2⟩
      · exact .inr ⟨k, n, by rw [h1]; simp [h3], h2⟩
    · rintro rfl
      rcases optI_val hrel hm (fun y hy => hal.opnd (by simp [Op.operands, hy])) with ⟨h1, h2⟩ | ⟨y, k, n, h1, h2, h3⟩
      · exact h1
      · cases h2
  have hz : ∀ k, m = some k → ∃ y kk, mx = some y ∧ ∀ {out : Out} {t' : Nat → AV} {h' : Nat → Ob} {κ : Kap} {R : Nat → Prop} {a : Act} {w : World}, Alike ⟨dst, .slice t x lo hi mx, ty, pos, after, guard⟩ tm.length (tget tm) t' (hget H) h' nb out → Rel E.G κ R tm.length t' h' a w → a.eval y = .int kk k ∨ ∃ k2, a.eval y = .int k2 k := by
    rintro k rfl
    cases mx with
    | none => simp [optI] at hm
    | some y => exact ⟨y, .i64, rfl, fun hal hrel => by
        rcases optI_val hrel hm (fun y hy => hal.opnd (by simp [Op.operands, hy])) with ⟨h1, h2⟩ | ⟨y', k', n, h1, h2, h3⟩
        · cases h1
        · cases h1; cases h2; exact .inr ⟨k', h3⟩⟩
  cases m with
  | some k =>
    simp only at hK
    unfold sliceZ at hK
    split at hK
    · rename_i e s' nn es hu
      simp only [Option.bind_eq_some_iff] at hK
      obtain ⟨s, hs, hK⟩ := hK
      split at hK
      · next hc =>
        obtain ⟨rfl, hl0, rfl, rfl⟩ := hc
        obtain ⟨ym, _, hmy, hme⟩ := hz 0 rfl
        refine ⟨_, hK, fun t' h' κ R a w hal hrel => ?_⟩
        obtain ⟨h1, h2, h3, _⟩ := hb hal hrel
        have hmv : ∃ k2, a.eval ym = .int k2 0 := by
          rcases hme hal hrel with h | h
          · exact ⟨_, h⟩
          · exact h
        obtain ⟨k2, hmv⟩ := hmv
        have hv0 : h' nb = .void := hal.free nb (Nat.le_refl _) (by simp)
        obtain ⟨g1, g2⟩ := adopt_nil hrel.heap hv0 s
        generalize hx : a.eval x = z at h1
        cases h1 with
        | p _ _ hp =>
          cases hp with
          | sl _ _ _ A len cap f b o q1 q2 q3 q4 q5 q6 q7 =>
            have hrun : (execOp a.eval ⟨dst, .slice t x lo hi mx, ty, pos, after, guard⟩).run E.P w = .ok (.value (.slice A 0 0)) w := by
              subst hmy
              have hbd : (Instr.sliceBounds true len cap (lo.map a.eval) (hi.map a.eval) (some (a.eval ym))).run E.P w = .ok (0, 0, 0) w := by
                rcases h3 with ⟨_, h3⟩ | ⟨kh, mh, h3, h3'⟩
                · cases h3
                · cases h3'
                  rw [h3, hmv]
                  unfold Instr.sliceBounds
                  rcases h2 with ⟨h2, rfl⟩ | ⟨kl, ml, h2, rfl⟩
                  · rw [h2]; simp [Instr.sliceBound, asIntOf_int]
                  · simp only [Option.getD_some] at hl0
                    subst hl0
                    rw [h2]; simp [Instr.sliceBound, asIntOf_int]
              simp only [execOp, Instr.sliceAt, Instr.slice, hx, Sem.run_bind, run_underlying' hu, Result.andThen_ok, Option.map_some, hbd, run_sizeOf' hs, Sem.run_pure, if_true, Nat.sub_zero]
            refine ⟨updN κ nb none, R, .slice A 0 0, w, .inl hrun, ?_, g1, ⟨g2, rfl, rfl, rfl, Nat.le_refl _, fun b hb _ => rfl, fun j b o hl hk => ?_, fun b hb => .inl hb⟩⟩
            · exact CRep.own nb 0 0 0 A s (by simp [putsF, Wr.putF, Ob.stride]) (Nat.le_refl _) (fun _ => rfl) (.inl rfl)
            · by_cases hj : j = nb
              · subst hj; simp [updN] at hk
              · right
                simp only [updN, if_neg hj] at hk
                have hl' : (h' j).live = true := by
                  have e : putsF h' [Wr.obj nb (.arr s false [])] j = h' j := by simp [putsF, Wr.putF, hj]
                  rw [← e]; exact hl
                exact ⟨j, o, hl', hk⟩
      · cases hK
    · cases hK
  | none =>
  simp only at hK
  unfold sliceV at hK
  split at hK
  · next b =>
    split at hK
    · next hu _ =>
      simp only at hK
      by_cases hc : (decide (0 ≤ hh.getD (b.size : Int)) && decide (hh.getD (b.size : Int) ≤ b.size) && decide (0 ≤ l.getD 0) && decide (l.getD 0 ≤ hh.getD (b.size : Int))) = true
      · rw [hc, cond_true] at hK
        simp only [Bool.and_eq_true, decide_eq_true_eq] at hc
        refine ⟨_, hK, .of_value fun t' h' κ R a w hal hrel => ?_⟩
        obtain ⟨h1, h2, h3, h4⟩ := hb hal hrel
        have h1' := val_rep (x := .string b) rfl h1
        have := h4 rfl
        subst this
        refine ⟨_, ?_, .p _ _ (.v _ rfl)⟩
        simp only [execOp, Instr.sliceAt, Instr.slice, h1', Sem.run_bind, run_underlying' hu, Result.andThen_ok, Option.map_none, Option.isSome_none, Bool.false_eq_true, if_false,
          run_bounds (P := E.P) (w := w) (isSlice := false) (len := b.size) (cap := b.size) h2 h3 hc.1.2 hc.2 (.inl hc.1.1.2), Sem.run_pure]
      · simp only [Bool.not_eq_true] at hc
        rw [hc] at hK; cases hK
    · cases hK
  · next c _ =>
    split at hK
    · next e hu _ =>
      simp only [Option.bind_eq_some_iff] at hK
      obtain ⟨s, hs, ln, hln, hK⟩ := hK
      by_cases hc : (decide (0 ≤ l.getD 0) && decide (l.getD 0 ≤ hh.getD (ln.1 : Int)) && decide (hh.getD (ln.1 : Int) ≤ ln.1)) = true
      · rw [hc, cond_true] at hK
        simp only [Bool.and_eq_true, decide_eq_true_eq] at hc
        obtain ⟨⟨hc1, hc2⟩, hc3⟩ := hc
        -- the run, of a slice of this length
        have hrun : ∀ (a : Act) (w : World) (A : Option Addr) (cap : Nat), a.eval x = .slice A ln.1 cap → ln.1 ≤ cap → mx = none →
            ((lo.map a.eval = none ∧ l = none) ∨ ∃ k m, lo.map a.eval = some (.int k m) ∧ l = some m) → ((hi.map a.eval = none ∧ hh = none) ∨ ∃ k m, hi.map a.eval = some (.int k m) ∧ hh = some m) →
            (execOp a.eval ⟨dst, .slice t x lo hi mx, ty, pos, after, guard⟩).run E.P w = .ok (.value (.slice (if cap = (l.getD 0).toNat then A else A.map (·.add ((l.getD 0).toNat * s))) ((hh.getD (ln.1 : Int)).toNat - (l.getD 0).toNat) (cap - (l.getD 0).toNat))) w := by
          rintro a w A cap hx hcap rfl h2 h3
          simp only [execOp, Instr.sliceAt, Instr.slice, hx, Sem.run_bind, run_underlying' hu, Result.andThen_ok, Option.map_none,
            run_bounds (P := E.P) (w := w) (isSlice := true) (len := ln.1) (cap := cap) h2 h3 hc1 hc2 (.inl (by omega)), run_sizeOf' hs, Sem.run_pure]
        split at hK
        · -- nil
          simp only [lenOf, Option.some.injEq] at hln
          subst hln
          refine ⟨_, hK, .of_value fun t' h' κ R a w hal hrel => ?_⟩
          obtain ⟨h1, h2, h3, h4⟩ := hb hal hrel
          have h1' := val_rep (x := .slice none 0 0) rfl h1
          refine ⟨.slice none 0 0, ?_, .p _ _ (.v _ rfl)⟩
          rw [hrun a w none 0 h1' (Nat.le_refl _) (h4 rfl) h2 h3]
          have e1 : (hh.getD ((0 : Nat) : Int)).toNat - (l.getD 0).toNat = 0 := by
            have q : hh.getD ((0 : Nat) : Int) ≤ ((0 : Nat) : Int) := hc3
            omega
          simp only [e1, Option.map_none, ite_self, Nat.zero_sub]
        · next s' nn es _ =>
          split at hK
          · next hss =>
            subst hss
            simp only [lenOf, Option.some.injEq] at hln
            subst hln
            refine ⟨_, hK, .of_value fun t' h' κ R a w hal hrel => ?_⟩
            obtain ⟨h1, h2, h3, h4⟩ := hb hal hrel
            generalize hx : a.eval x = z at h1
            cases h1 with
            | p _ _ hp =>
              cases hp with
              | sl _ _ _ A len cap f b o g1 g2 g3 g4 g5 g6 g7 =>
                subst g1
                refine ⟨_, hrun a w A cap hx g2 (h4 rfl) h2 h3, ?_⟩
                simp only at hc2 hc3
                generalize hl0 : l.getD 0 = l0 at *
                generalize hh0 : hh.getD (es.length : Int) = h0 at *
                refine .p _ _ (.sl s nn _ _ _ _ (fun i j => f (l0.toNat + i) j) b (o + l0.toNat * s) (by simp; omega) (by omega) (fun hnn => ?_) (fun hA => ?_) (fun hne => ?_) (fun i e he => ?_) (fun i e j c he hj => ?_))
                · have := g3 hnn
                  split
                  · exact this
                  · cases A with
                    | none => exact absurd rfl this
                    | some _ => simp
                · have : A = none := by
                    split at hA
                    · exact hA
                    · simpa using hA
                  have := g4 this
                  omega
                · have hlt : l0.toNat < h0.toNat := by
                    have : ((es.drop l0.toNat).take (h0.toNat - l0.toNat)).length ≠ 0 := fun e => hne (List.eq_nil_of_length_eq_zero e)
                    simp at this; omega
                  have hes : es ≠ [] := by rintro rfl; simp at hc3; omega
                  obtain ⟨hA, hRb⟩ := g5 hes
                  rw [if_neg (by omega), hA]
                  exact ⟨by simp [add_none], hRb⟩
                · rw [List.getElem?_take] at he
                  split at he
                  · rw [List.getElem?_drop] at he
                    obtain ⟨q1, q2⟩ := g6 _ e he
                    exact ⟨q1, fun j hj => by rw [← q2 j hj]; congr 2; rw [Nat.add_mul]; omega⟩
                  · cases he
                · rw [List.getElem?_take] at he
                  split at he
                  · rw [List.getElem?_drop] at he
                    exact g7 _ e j c he hj
                  · cases he
          · cases hK
        · next slot off len _ =>
         split at hK
         · next hstr =>
          refine ⟨_, hK, .of_value fun t' h' κ R a w hal hrel => ?_⟩
          obtain ⟨h1, h2, h3, h4⟩ := hb hal hrel
          have hst : ∃ ob, h' slot = ob ∧ ob ≠ .dead ∧ ln.1 = len ∧ ob.stride = some s := by
            simp only [lenOf] at hln
            split at hln
            · next hob =>
              cases hln
              have := hal.regs (.obj slot) (by simp)
              simp only [Reg.getF, RegValF.obj.injEq] at this
              refine ⟨_, rfl, ?_, rfl, by rw [this]; exact hstr⟩
              rw [this]; simp [hget, hob]
            · next hob =>
              cases hln
              have := hal.regs (.obj slot) (by simp)
              simp only [Reg.getF, RegValF.obj.injEq] at this
              refine ⟨_, rfl, ?_, rfl, by rw [this]; exact hstr⟩
              rw [this]; simp [hget, hob]
            · cases hln
          obtain ⟨ob, hob, hd, hlen, hos⟩ := hst
          generalize hx : a.eval x = z at h1
          cases h1 with
          | ownDead _ _ _ _ hd' => rw [hob] at hd'; exact absurd hd' hd
          | own _ _ _ cap A s0 g1 g2 g3 g4 =>
            rw [← hlen] at hx g2
            refine ⟨_, hrun a w A cap hx g2 (h4 rfl) h2 h3, ?_⟩
            generalize hl0 : l.getD 0 = l0 at *
            generalize hh0 : hh.getD (ln.1 : Int) = h0 at *
            refine .own _ _ _ _ _ s0 g1 (by omega) (fun hA => ?_) ?_
            · have : A = none := by
                split at hA
                · exact hA
                · simpa using hA
              have := g3 this
              omega
            · by_cases hcl : cap = l0.toNat
              · exact .inl (by omega)
              · rcases g4 with g4 | ⟨b, o, k1, k2, k3⟩
                · omega
                · refine .inr ⟨b, o, k1, ?_, ?_⟩
                  · rw [if_neg hcl, k2]
                    have : s0 = s := by
                      rw [hob, hos] at g1; cases g1; rfl
                    subst this
                    simp [add_none, Nat.add_mul, Nat.add_assoc]
                  · have : off + l0.toNat + (cap - l0.toNat) = off + cap := by omega
                    rw [this]; exact k3
         · cases hK
        · cases hK
      · simp only [Bool.not_eq_true] at hc
        rw [hc] at hK; cases hK
    · cases hK
  · cases hK

end ops
end Go.Ev

namespace Go.Ev
open Go
variable {G : Nat → Option (List PC)}

section
variable {κ : Kap} {R : Nat → Prop} {h : Nat → Ob} {w : World}

theorem PRep.oneCell {c : PC} {y : Value} (hc : PRep R w c y) : y.oneCell' = true := by
  cases hc with
  | v _ h => exact h
  | sl => rfl
theorem CRep.oneCell {c : C} {y : Value} (hc : CRep κ R h w c y) : y.oneCell' = true := by
  cases hc with
  | p _ _ h => exact h.oneCell
  | ownDead _ _ _ _ _ h => exact h
  | _ => rfl
theorem cells_one {y : Value} (h : y.oneCell' = true) : y.cells = #[y] := by
  cases y <;> first | rfl | (simp [Value.oneCell'] at h)

theorem SRep.cells {v : SV} {y : Value} {cs : List C} (hr : SRep κ R h w v y) (hc : v.cells = some cs) : CReps κ R h w cs y.cells.toList := by
  cases v with
  | dead => cases hc
  | one c =>
    cases hc
    have hr : CRep κ R h w c y := hr
    rw [cells_one hr.oneCell]
    refine ⟨rfl, fun i c' y' h1 h2 => ?_⟩
    cases i with
    | zero => cases h1; cases h2; exact hr
    | succ i => cases h1
  | agg l =>
    cases hc
    obtain ⟨ys, rfl, hys⟩ := hr
    exact hys
  | pagg l =>
    cases hc
    obtain ⟨ys, rfl, hys⟩ := hr
    exact creps_map.2 hys

theorem CReps.ones {cs : List C} {ys : List Value} (hr : CReps κ R h w cs ys) : ∀ y ∈ ys, y.oneCell' = true := by
  intro y hy
  obtain ⟨i, hi⟩ := List.mem_iff_getElem?.1 hy
  have hlt : i < cs.length := by rw [hr.1]; exact (List.getElem?_eq_some_iff.1 hi).1
  exact (hr.2 i _ y (List.getElem?_eq_getElem hlt) hi).oneCell

theorem creps_vals {z : List Value} (hz : ∀ x ∈ z, x.oneCell' = true) : CReps κ R h w (z.map fun v => .p (.v v)) z := by
  refine ⟨by simp, fun i c y h1 h2 => ?_⟩
  rw [List.getElem?_map, h2] at h1
  cases h1
  exact .p _ _ (.v _ (hz y (List.mem_of_getElem? h2)))

theorem preps_vals {z : List Value} (hz : ∀ x ∈ z, x.oneCell' = true) : PReps R w (z.map .v) z := by
  refine ⟨by simp, fun i c y h1 h2 => ?_⟩
  rw [List.getElem?_map, h2] at h1
  cases h1
  exact .v _ (hz y (List.mem_of_getElem? h2))

/-- A new block, for a new object. -/
theorem step_new (hH : HRep G κ R h w) {nb : Nat} (hv : h nb = .void) (ob : Ob) (c : Array Value) (t : TypeId) {w' : World} (hw' : w' = w.alloc (.cells c t))
    (hob : ∀ κ' h', Ext κ R h w κ' R h' w' → κ' nb = some (w.heap.size, 0) → ¬ R w.heap.size → w'.heap[w.heap.size]? = some (.cells c t (0, 0)) → ObRep κ' R h' w' nb ob) :
    HRep G (updN κ nb (some (w.heap.size, 0))) R (putsF h [.obj nb ob]) w' ∧ Fr κ R h w (updN κ nb (some (w.heap.size, 0))) R (putsF h [.obj nb ob]) w' := by
  have hblock : w'.heap[w.heap.size]? = some (.cells c t (0, 0)) := by subst hw'; show (w.heap.push _)[w.heap.size]? = _; simp
  have he : putsF h [.obj nb ob] = fun s => if s = nb then ob else if (fun _ => false : Nat → Bool) s then .dead else h s := by
    funext s; simp [putsF, Wr.putF]
  rw [he]
  refine step_put hH nb w.heap.size 0 ob (fun _ => false) (by subst hw'; rfl) (by subst hw'; rfl) (by subst hw'; rfl) (by subst hw'; simp) (by subst hw'; simp) (fun x _ hx => ?_) (fun c' t' fr hx => ?_) (.inl (Nat.le_refl _)) (.inl hv) rfl (fun hext hR => hob _ _ hext (by simp [updN]) hR hblock)
  · subst hw'; simp only [World.alloc]; rw [Array.getElem?_push]; rw [if_neg (by omega)]
  · have := (Array.getElem?_eq_some_iff.1 hx).1; omega

theorem thawed_zero (c : Array Value) : thawed c (0, 0) := fun j _ h => by omega

theorem obrep_box {κ' : Kap} {h' : Nat → Ob} {w' : World} {s nb b : Nat} {cs : List C} {ys : List Value} {t : TypeId} (hr : CReps κ R h w cs ys) (he : Ext κ R h w κ' R h' w') (hk : κ' nb = some (b, 0)) (hR : ¬ R b)
    (hb : w'.heap[b]? = some (.cells ys.toArray t (0, 0))) : ObRep κ' R h' w' nb (.box s cs) := by
  refine ⟨b, 0, ys.toArray, t, (0, 0), hk, hb, thawed_zero _, hR, by simp [hr.1], fun j x hx => ?_⟩
  have hlt : j < ys.length := by rw [← hr.1]; exact (List.getElem?_eq_some_iff.1 hx).1
  exact ⟨ys[j], by simp [hlt], (hr.2 j x _ hx (List.getElem?_eq_getElem hlt)).ext he⟩

theorem flat_get {α : Type} {s : Nat} : ∀ {es : List (List α)} {i j : Nat} {e : List α} {c : α}, (∀ l ∈ es, l.length = s) → es[i]? = some e → e[j]? = some c → es.flatten[i * s + j]? = some c
  | [], i, j, e, c, _, h, _ => by simp at h
  | l :: es, 0, j, e, c, hl, h, hj => by
    simp only [List.getElem?_cons_zero, Option.some.injEq] at h
    subst h
    have hlt := (List.getElem?_eq_some_iff.1 hj).1
    rw [List.flatten_cons, Nat.zero_mul, Nat.zero_add, List.getElem?_append_left hlt]
    exact hj
  | l :: es, i + 1, j, e, c, hl, h, hj => by
    have hll := hl l (by simp)
    rw [List.flatten_cons, List.getElem?_append_right (by rw [hll, Nat.add_mul]; omega)]
    have : (i + 1) * s + j - l.length = i * s + j := by rw [hll, Nat.add_mul]; omega
    rw [this]
    exact flat_get (fun l' h' => hl l' (by simp [h'])) (by simpa using h) hj

theorem obrep_arr {κ' : Kap} {h' : Nat → Ob} {w' : World} {s nb b : Nat} {es : List (List PC)} {ys rest : List Value} {t : TypeId} (hs : ∀ e ∈ es, e.length = s) (hr : PReps R w es.flatten ys) (he : Ext κ R h w κ' R h' w')
    (hk : κ' nb = some (b, 0)) (hR : ¬ R b) (hb : w'.heap[b]? = some (.cells (ys ++ rest).toArray t (0, 0))) : ObRep κ' R h' w' nb (.arr s false es) := by
  have hlen : es.flatten.length = es.length * s := by
    clear hr
    induction es with
    | nil => simp
    | cons e es ih => rw [List.flatten_cons, List.length_append, ih (fun l hl => hs l (by simp [hl])), hs e (by simp), List.length_cons, Nat.add_mul]; omega
  refine .inr ⟨b, 0, (ys ++ rest).toArray, t, (0, 0), hk, hb, thawed_zero _, fun e => (by cases e), fun _ => hR, ?_, fun i e hi => ⟨hs e (List.mem_of_getElem? hi), fun j x hx => ?_⟩⟩
  · have := hr.1
    simp; omega
  · have hf := flat_get hs hi hx
    have hlt : i * s + j < ys.length := by rw [← hr.1]; exact (List.getElem?_eq_some_iff.1 hf).1
    refine ⟨ys[i * s + j], ?_, (hr.2 _ x _ hf (List.getElem?_eq_getElem hlt)).ext he.r he.cells⟩
    rw [Nat.zero_add]
    simp [List.getElem?_append_left hlt, hlt]

theorem splice_length {α : Type} (l x : List α) (off : Nat) (h : off + x.length ≤ l.length) : (splice l off x).length = l.length := by
  simp [splice]; omega

theorem splice_get {α : Type} (l x : List α) (off j : Nat) (h : off + x.length ≤ l.length) : (splice l off x)[j]? = if off ≤ j ∧ j < off + x.length then x[j - off]? else l[j]? := by
  unfold splice
  have h1 : (l.take off).length = off := by simp; omega
  by_cases ha : j < off
  · rw [List.getElem?_append_left (by omega), if_neg (by omega), List.getElem?_take, if_pos ha]
  · rw [List.getElem?_append_right (by omega), h1]
    by_cases hb : j < off + x.length
    · rw [List.getElem?_append_left (by omega), if_pos ⟨by omega, hb⟩]
    · rw [List.getElem?_append_right (by omega), if_neg (by omega), List.getElem?_drop]
      congr 1; omega

theorem creps_splice {cs x : List C} {ys : List Value} {zs : List Value} {off : Nat} (hc : CReps κ R h w cs ys) (hx : CReps κ R h w x zs) (hl : off + x.length ≤ cs.length) :
    CReps κ R h w (splice cs off x) (setRange ys.toArray off zs).toList := by
  refine ⟨by rw [splice_length _ _ _ hl]; have := setRange_size zs ys.toArray off; rw [← Array.length_toList, ← Array.length_toList] at this; rw [this]; exact hc.1, fun i c y h1 h2 => ?_⟩
  rw [splice_get _ _ _ _ hl] at h1
  rw [Array.getElem?_toList, setRange_get _ _ _ _ (by simp [← hc.1, ← hx.1]; exact hl), ← hx.1] at h2
  split at h1
  · next hin => rw [if_pos hin] at h2; exact hx.2 _ c y h1 h2
  · next hin => rw [if_neg hin] at h2; exact hc.2 i c y h1 (by simpa using h2)

theorem fold_set (zs : List Value) : ∀ (k off : Nat) (c : Array Value), ((zs.zipIdx k).foldl (fun cs (p : Value × Nat) => cs.setIfInBounds (off + p.2) p.1) c) = setRange c (off + k) zs := by
  induction zs with
  | nil => intro k off c; rfl
  | cons z zs ih => intro k off c; simp only [List.zipIdx_cons, List.foldl_cons, setRange]; rw [ih (k + 1) off]; rfl

/-- Parts laid into cells, as the machine does it. -/
theorem fill_rep {place : Nat → Option (Nat × Nat)} : ∀ (ps : List (Nat × SV)) (vals : List (Nat × Value)) (cs cs' : List C) (ys : List Value),
    ps.length = vals.length → (∀ (i : Nat) (p : Nat × SV) (v : Nat × Value), ps[i]? = some p → vals[i]? = some v → p.1 = v.1 ∧ SRep κ R h w p.2 v.2) → CReps κ R h w cs ys → fillC place cs ps = some cs' →
    ∃ zs : List Value, Instr.fill place ys.toArray vals = some zs.toArray ∧ CReps κ R h w cs' zs
  | [], [], cs, cs', ys, _, _, hc, hf => by cases hf; exact ⟨ys, rfl, hc⟩
  | [], _ :: _, _, _, _, hl, _, _, _ => by simp at hl
  | _ :: _, [], _, _, _, hl, _, _, _ => by simp at hl
  | (i, sv) :: ps, (i', v) :: vals, cs, cs', ys, hl, hp, hc, hf => by
    obtain ⟨h1, h2⟩ := hp 0 (i, sv) (i', v) rfl rfl
    simp only at h1 h2
    subst h1
    simp only [fillC, Option.bind_eq_some_iff] at hf
    obtain ⟨pl, hpl, xs, hxs, hf⟩ := hf
    split at hf
    · next hcond =>
      have hx := SRep.cells h2 hxs
      have hsz : v.cells.size = pl.2 := by rw [← hcond.1, hx.1]; simp
      have hoff : pl.1 + xs.length ≤ cs.length := by rw [hcond.1]; exact hcond.2
      have hrec := creps_splice hc hx hoff
      obtain ⟨zs, hz1, hz2⟩ := fill_rep ps vals _ cs' _ (by simpa using hl) (fun j p v' ha hb => hp (j + 1) p v' (by simpa using ha) (by simpa using hb)) hrec hf
      refine ⟨zs, ?_, hz2⟩
      obtain ⟨po, psz⟩ := pl
      simp only at hsz hoff hcond
      simp only [Instr.fill, hpl]
      rw [if_neg (by simp [hsz]; rw [← hc.1]; omega)]
      rw [← hz1]
      congr 1
      rw [← Array.foldl_toList]
      simp only [Array.toList_zipIdx]
      exact fold_set v.cells.toList 0 po ys.toArray
    · cases hf

end
end Go.Ev

namespace Go.Ev
open Go
variable {G : Nat → Option (List PC)}

section
variable {κ : Kap} {R : Nat → Prop} {h : Nat → Ob} {w : World}

/-- A slice of an array of the abstract heap, its cells read: wherever its block may be read alone (b in R'). -/
theorem own_sl {R' : Nat → Prop} {slot off len s : Nat} {fz : Bool} {es : List (List PC)} {y : Value} (hH : HRep G κ R h w) (hs : h slot = .arr s fz es) (hc : CRep κ R h w (.own slot off len) y) (hl : off + len ≤ es.length)
    (hR : ∀ b, R b → R' b) (hb : ∀ b o, κ slot = some (b, o) → R' b) : PRep R' w (.sl s false ((es.drop off).take len)) y := by
  cases hc with
  | ownDead _ _ _ _ hd => rw [hs] at hd; cases hd
  | own _ _ _ cap A s0 g1 g2 g3 g4 =>
    rw [hs] at g1; simp only [Ob.stride, Option.some.injEq] at g1; subst g1
    have hlen : len = ((es.drop off).take len).length := by simp; omega
    by_cases h0 : len = 0
    · subst h0
      simp only [List.take_zero]
      exact .sl s false [] A 0 cap (fun _ _ => undef) 0 0 rfl g2 (fun e => by cases e) g3 (fun e => absurd rfl e) (fun i e he => by simp at he) (fun i e j c he => by simp at he)
    · rcases g4 with g4 | ⟨b, o, k1, k2, k3⟩
      · omega
      · have hob := hH.obs slot
        rw [hs] at hob
        rcases hob with ⟨h1, h2⟩ | ⟨b', o', c, t, fr, h1, h2, h3, h4, h5, h6, h7⟩
        · rw [k1] at h1; cases h1
        · rw [k1] at h1; cases h1
          refine .sl s false _ A len cap (fun i j => (c[o + (off + i) * s + j]?).getD undef) b (o + off * s) hlen g2 (fun e => by cases e) g3 (fun _ => ⟨k2, hb b o k1⟩) (fun i e he => ?_) (fun i e j x he hj => ?_)
          · rw [List.getElem?_take] at he
            split at he
            · rw [List.getElem?_drop] at he
              obtain ⟨q1, q2⟩ := h7 _ e he
              refine ⟨q1, fun j hj => ?_⟩
              obtain ⟨y, hy, _⟩ := q2 j e[j] (List.getElem?_eq_getElem (by omega))
              rw [cell_of_cells h2]
              have : o + off * s + i * s + j = o + (off + i) * s + j := by rw [Nat.add_mul]; omega
              rw [this, hy]; rfl
            · cases he
          · rw [List.getElem?_take] at he
            split at he
            · rw [List.getElem?_drop] at he
              obtain ⟨q1, q2⟩ := h7 _ e he
              obtain ⟨y, hy, hr⟩ := q2 j x hj
              rw [hy]
              exact hr.ext hR (fun _ _ => rfl)
            · cases he

/-- Cells laid to be read alone: the arrays that they name are written no more. -/
theorem toPs_step {H : List Ob} : ∀ (cs : List C) (l : List PC) (wr : List Wr) (rd : List Reg) (ys : List Value) (h1 : Nat → Ob) (R1 : Nat → Prop), toPs H cs = some (l, wr, rd) →
    (∀ slot, Reg.obj slot ∈ rd → ∃ s fz es fz', hget H slot = .arr s fz es ∧ h1 slot = .arr s fz' es) → HRep G κ R1 h1 w → CReps κ R1 h1 w cs ys →
    ∃ R', HRep G κ R' (putsF h1 wr) w ∧ Fr κ R1 h1 w κ R' (putsF h1 wr) w ∧ PReps R' w l ys ∧ ∀ slot, h1 slot = .void → putsF h1 wr slot = .void
  | [], l, wr, rd, ys, h1, R1, ht, hrd, hH, hc => by
    cases ht
    refine ⟨R1, hH, Fr.refl .., ⟨hc.1, fun i c y h1 => by simp at h1⟩, fun _ h => h⟩
  | c :: cs, l, wr, rd, ys, h1, R1, ht, hrd, hH, hc => by
    simp only [toPs, Option.bind_eq_some_iff] at ht
    obtain ⟨x, hx, q, hq, ht⟩ := ht
    cases ht
    match ys, hc.1 with
    | y :: ys, hlen =>
      have hcy : CRep κ R1 h1 w c y := hc.2 0 c y rfl rfl
      have hcs : CReps κ R1 h1 w cs ys := ⟨by simpa using hlen, fun i c' y' a b => hc.2 (i + 1) c' y' (by simpa using a) (by simpa using b)⟩
      have hone : ∃ R2, HRep G κ R2 (putsF h1 x.2.1) w ∧ Fr κ R1 h1 w κ R2 (putsF h1 x.2.1) w ∧ PRep R2 w x.1 y ∧ (∀ slot, h1 slot = .void → putsF h1 x.2.1 slot = .void) ∧
          (∀ slot s fz es, h1 slot = .arr s fz es → ∃ fz', putsF h1 x.2.1 slot = .arr s fz' es) := by
        unfold toP at hx
        split at hx
        · cases hx
          cases hcy with
          | p _ _ hp => exact ⟨R1, hH, Fr.refl .., hp, fun _ h => h, fun slot s fz es h => ⟨fz, h⟩⟩
        · next slot off len =>
          split at hx
          · next s fz es hob =>
            split at hx
            · next hl =>
              cases hx
              obtain ⟨s', fz0, es', fz', e1, e2⟩ := hrd slot (by simp)
              have e0 : hget H slot = .arr s fz es := by simp [hget, hob]
              rw [e0] at e1; cases e1
              obtain ⟨f1, f2⟩ := step_freeze hH slot s fz' es e2
              have hput : putsF h1 [.obj slot (.arr s true es)] = updN h1 slot (.arr s true es) := by funext i; simp [putsF, Wr.putF, updN]
              simp only
              rw [hput]
              refine ⟨_, f1, f2, ?_, fun k hk => ?_, fun k s1 fz1 es1 hk => ?_⟩
              · exact own_sl (R' := fun b => R1 b ∨ ∃ o, κ slot = some (b, o)) hH e2 hcy hl (fun b hb => .inl hb) (fun b o hb => .inr ⟨o, hb⟩)
              · by_cases hks : k = slot
                · subst hks; rw [e2] at hk; cases hk
                · simp [updN, hks, hk]
              · by_cases hks : k = slot
                · subst hks; rw [e2] at hk; cases hk; exact ⟨true, by simp [updN]⟩
                · exact ⟨fz1, by simp [updN, hks, hk]⟩
            · cases hx
          · cases hx
        · cases hx
      obtain ⟨R2, a1, a2, a3, a4, a5⟩ := hone
      obtain ⟨R3, b1, b2, b3, b4⟩ := toPs_step cs q.1 q.2.1 q.2.2 ys (putsF h1 x.2.1) R2 hq (fun slot hs => by
        obtain ⟨s, fz, es, fz', e1, e2⟩ := hrd slot (by simp [hs])
        obtain ⟨fz2, e3⟩ := a5 slot s fz' es e2
        exact ⟨s, fz, es, fz2, e1, e3⟩) a1 (hcs.ext a2.ext)
      have hput : putsF h1 (x.2.1 ++ q.2.1) = putsF (putsF h1 x.2.1) q.2.1 := by simp [putsF, List.foldl_append]
      rw [hput]
      refine ⟨R3, b1, a2.trans b2, ⟨by simpa using b3.1, fun i c' y' hi hy => ?_⟩, fun k hk => b4 k (a4 k hk)⟩
      cases i with
      | zero => cases hi; cases hy; exact a3.ext b2.ext.r b2.ext.cells
      | succ i => exact b3.2 i c' y' (by simpa using hi) (by simpa using hy)

theorem toPs_regs {H : List Ob} {h' : Nat → Ob} : ∀ (cs : List C) (l : List PC) (wr : List Wr) (rd : List Reg), toPs H cs = some (l, wr, rd) → (∀ q ∈ rd, q.getF h' = q.getF (hget H)) →
    ∀ slot, Reg.obj slot ∈ rd → ∃ s fz es fz', hget H slot = .arr s fz es ∧ h' slot = .arr s fz' es
  | [], l, wr, rd, ht, _, slot, hs => by cases ht; simp at hs
  | c :: cs, l, wr, rd, ht, hrd, slot, hs => by
    simp only [toPs, Option.bind_eq_some_iff] at ht
    obtain ⟨x, hx, q, hq, ht⟩ := ht
    cases ht
    simp only [List.mem_append] at hs
    rcases hs with hs | hs
    · unfold toP at hx
      split at hx
      · cases hx; simp at hs
      · next slot' off len =>
        split at hx
        · next s fz es hob =>
          split at hx
          · cases hx
            simp only [List.mem_singleton, Reg.obj.injEq] at hs
            subst hs
            have e0 : hget H slot = .arr s fz es := by simp [hget, hob]
            have := hrd (.obj slot) (by simp)
            simp only [Reg.getF, RegValF.obj.injEq] at this
            exact ⟨s, fz, es, fz, e0, by rw [this, e0]⟩
          · cases hx
        · cases hx
      · cases hx
    · exact toPs_regs cs q.1 q.2.1 q.2.2 hq (fun r hr => hrd r (by simp [hr])) slot hs

/-- Zero cells, one element after the other. -/
theorem zeros_list {z : List Value} {s : Nat} (hz : z.length = s) (hs : 0 < s) : ∀ n : Nat, (List.range (n * s)).map (fun i => z.toArray[i % s]!) = (List.replicate n z).flatten
  | 0 => by simp
  | n + 1 => by
    rw [show (n + 1) * s = s + n * s by rw [Nat.add_mul]; omega, List.range_add, List.map_append, List.replicate_succ, List.flatten_cons, ← zeros_list hz hs n]
    congr 1
    · apply List.ext_getElem?
      intro i
      rw [List.getElem?_map]
      by_cases hi : i < s
      · rw [List.getElem?_range hi]
        simp only [Option.map_some, Nat.mod_eq_of_lt hi]
        rw [getElem!_pos _ _ (by simpa [hz] using hi)]
        simp [hz, hi]
      · rw [List.getElem?_eq_none (by simpa using hi), List.getElem?_eq_none (by omega)]
        rfl
    · rw [List.map_map]
      apply List.map_congr_left
      intro i _
      simp [Nat.add_mod_left]

theorem flatZero_eq {z : List Value} (n : Nat) : flatZero z n = ((List.replicate n z).flatten).map (fun v => .p (.v v)) := by
  induction n with
  | zero => rfl
  | succ n ih => simp [flatZero, List.replicate_succ, ih]

theorem chunk_get {α : Type} {s : Nat} : ∀ (n : Nat) (l : List α), l.length = n * s → (∀ e ∈ chunk s n l, e.length = s) ∧ (chunk s n l).flatten = l ∧ (chunk s n l).length = n
  | 0, l, h => by
    have : l = [] := List.eq_nil_of_length_eq_zero (by simpa using h)
    subst this
    exact ⟨fun e he => by simp [chunk] at he, rfl, rfl⟩
  | n + 1, l, h => by
    rw [Nat.add_mul] at h
    obtain ⟨h1, h2, h3⟩ := chunk_get (s := s) n (l.drop s) (by rw [List.length_drop]; omega)
    refine ⟨fun e he => ?_, by simp [chunk, h2], by simp [chunk, h3]⟩
    simp only [chunk, List.mem_cons] at he
    rcases he with rfl | he
    · rw [List.length_take]; omega
    · exact h1 e he

end
section ops
variable {ρ : Type} {E : Env} {tm : List AV} {H : List Ob} {nb : Nat} {K : Out → Option ρ} {r : ρ}
variable {dst : Option Tmp} {ty : TypeId} {pos : String} {after : Array Edge} {guard : Option (Nat × Bool)}

/-- A box in new memory. -/
theorem new_box {κ : Kap} {R : Nat → Prop} {h' : Nat → Ob} {w : World} (hH : HRep G κ R h' w) (hv : h' nb = .void) (s : Nat) {cs : List C} {ys : List Value} (t : TypeId) (hr : CReps κ R h' w cs ys) :
    ∃ κ', κ' nb = some (w.heap.size, 0) ∧ HRep G κ' R (putsF h' [.obj nb (.box s cs)]) (w.alloc (.cells ys.toArray t)) ∧ Fr κ R h' w κ' R (putsF h' [.obj nb (.box s cs)]) (w.alloc (.cells ys.toArray t)) := by
  refine ⟨_, ?_, step_new hH hv (.box s cs) ys.toArray t rfl fun κ2 h2 he hk hR hb => obrep_box hr he hk hR hb⟩
  simp [updN]

theorem new_arr {κ : Kap} {R : Nat → Prop} {h' : Nat → Ob} {w : World} (hH : HRep G κ R h' w) (hv : h' nb = .void) {s : Nat} {es : List (List PC)} {ys rest : List Value} (t : TypeId) (hs : ∀ e ∈ es, e.length = s) (hr : PReps R w es.flatten ys) :
    ∃ κ', κ' nb = some (w.heap.size, 0) ∧ HRep G κ' R (putsF h' [.obj nb (.arr s false es)]) (w.alloc (.cells (ys ++ rest).toArray t)) ∧ Fr κ R h' w κ' R (putsF h' [.obj nb (.arr s false es)]) (w.alloc (.cells (ys ++ rest).toArray t)) := by
  refine ⟨_, ?_, step_new hH hv (.arr s false es) (ys ++ rest).toArray t rfl fun κ2 h2 he hk hR hb => obrep_arr hs hr he hk hR hb⟩
  simp [updN]

theorem put_get (h' : Nat → Ob) (nb : Nat) (ob : Ob) : putsF h' [.obj nb ob] nb = ob := by simp [putsF, Wr.putF]

theorem sim_alloc {t : TypeId} (h : aop E tm H nb ⟨dst, .alloc t, ty, pos, after, guard⟩ K = some r) : Does E tm H nb ⟨dst, .alloc t, ty, pos, after, guard⟩ K r := by
  simp only [aop, Option.bind_eq_some_iff] at h
  obtain ⟨s, hs, z, hz, hK⟩ := h
  refine ⟨_, hK, fun t' h' κ R a w hal hrel => ?_⟩
  obtain ⟨v, h1, h2, h3⟩ := run_zero' hz w
  obtain ⟨κ', k1, k2, k3⟩ := new_box (G := E.G) (nb := nb) hrel.heap (hal.free nb (Nat.le_refl _) (by simp)) s t (creps_vals h3)
  refine ⟨κ', R, .pointer (some ⟨w.heap.size, 0, none⟩), _, .inl ?_, ?_, k2, k3⟩
  · simp only [execOp, Instr.alloc, Sem.run_bind, h1, Result.andThen_ok, newVar, newRow, run_newObj, Sem.run_pure]
    rw [← h2]
    rfl
  · exact .bp nb 0 w.heap.size 0 s (by rw [put_get]; rfl) k1

theorem sim_box {t : TypeId} {x : Operand} (h : aop E tm H nb ⟨dst, .box t x, ty, pos, after, guard⟩ K = some r) : Does E tm H nb ⟨dst, .box t x, ty, pos, after, guard⟩ K r := by
  simp only [aop, Option.bind_eq_some_iff] at h
  obtain ⟨v, hv, u, hu, cs, hcs, hK⟩ := h
  refine ⟨_, hK, fun t' h' κ R a w hal hrel => ?_⟩
  have hrep := operand_rep hrel hv (hal.opnd (by simp [Op.operands]))
  cases v with
  | tup l => cases hu
  | g _ _ _ => cases hu
  | s x' =>
    cases hu
    have hcr := SRep.cells hrep hcs
    obtain ⟨κ', k1, k2, k3⟩ := new_box (G := E.G) (nb := nb) hrel.heap (hal.free nb (Nat.le_refl _) (by simp)) cs.length t hcr
    refine ⟨κ', R, .pointer (some ⟨w.heap.size, 0, none⟩), _, .inl ?_, ?_, k2, k3⟩
    · simp only [execOp, Instr.box, Sem.run_bind, newVar, newRow, run_newObj, Result.andThen_ok, Sem.run_pure]
      rfl
    · exact .bp nb 0 w.heap.size 0 cs.length (by rw [put_get]; rfl) k1

theorem sim_makeFunc {f : FuncId} {first captured : Array Operand} (h : aop E tm H nb ⟨dst, .makeFunc (.func f) first captured, ty, pos, after, guard⟩ K = some r) : Does E tm H nb ⟨dst, .makeFunc (.func f) first captured, ty, pos, after, guard⟩ K r := by
  simp only [aop] at h
  split at h
  · next hf =>
    simp only [Option.bind_eq_some_iff] at h
    obtain ⟨cs, hcs, hK⟩ := h
    refine ⟨_, hK, .of_value fun t' h' κ R a w hal hrel => ?_⟩
    have hf' : first = #[] := Array.eq_empty_of_size_eq_zero hf
    subst hf'
    have key : ∀ (l : List Operand) (cs : List C), (∀ x ∈ l, x ∈ captured.toList) → (l.mapM fun x => (operand tm x).bind fun v => match v with | .s (.one c) => some c | _ => none) = some cs → CReps κ R h' w cs (l.map a.eval) := by
      intro l
      induction l with
      | nil => intro cs _ hm; simp at hm; subst hm; exact ⟨rfl, fun i c y h1 => by simp at h1⟩
      | cons x l ih =>
        intro cs hmem hm
        simp only [List.mapM_cons, bind, Option.bind_eq_some_iff, pure, Option.some.injEq] at hm
        obtain ⟨c, ⟨v, hv, hc⟩, cs', hcs', rfl⟩ := hm
        have hrec := ih cs' (fun y hy => hmem y (by simp [hy])) hcs'
        have hx := operand_rep hrel hv (hal.opnd (by simp only [Op.operands, Array.empty_append]; simpa using hmem x (by simp)))
        split at hc
        · cases hc
          refine ⟨by simp [hrec.1], fun i c' y h1 h2 => ?_⟩
          cases i with
          | zero => simp only [List.map_cons, List.getElem?_cons_zero, Option.some.injEq] at h1 h2; subst h1; subst h2; exact hx
          | succ i => exact hrec.2 i c' y (by simpa using h1) (by simpa using h2)
        · cases hc
    have hr := key captured.toList cs (fun x hx => hx) hcs
    refine ⟨.func (.func f) #[] (captured.toList.map a.eval).toArray, ?_, .clo f cs _ hr.1 hr.2⟩
    have hcap : captured.map a.eval = (captured.toList.map a.eval).toArray := by apply Array.ext'; simp
    simp only [execOp, Instr.makeFunc, Sem.run_bind, Sem.run_pure, Result.andThen_ok, hcap, Array.map_empty]
  · cases h

/-- The parts of a built value. -/
theorem parts_rep {κ : Kap} {R : Nat → Prop} {t' : Nat → AV} {h' : Nat → Ob} {a : Act} {w : World} (hrel : Rel E.G κ R tm.length t' h' a w) : ∀ (ps : List (Nat × Operand)) (vs : List (Nat × SV)), parts tm ps = some vs →
    (∀ p ∈ ps, ∀ t, p.2 = .tmp t → t' t = tget tm t) →
    vs.length = (ps.map fun p => (p.1, a.eval p.2)).length ∧ ∀ (i : Nat) (p : Nat × SV) (v : Nat × Value), vs[i]? = some p → (ps.map fun p => (p.1, a.eval p.2))[i]? = some v → p.1 = v.1 ∧ SRep κ R h' w p.2 v.2
  | [], vs, hp, _ => by simp [parts] at hp; subst hp; exact ⟨rfl, fun i p v h1 => by simp at h1⟩
  | p :: ps, vs, hp, hal => by
    simp only [parts, List.mapM_cons, bind, Option.bind_eq_some_iff, pure, Option.some.injEq] at hp
    obtain ⟨q, ⟨v, hv, hq⟩, vs', hvs', rfl⟩ := hp
    obtain ⟨h1, h2⟩ := parts_rep hrel ps vs' hvs' (fun p' hp' => hal p' (by simp [hp']))
    refine ⟨by simpa using h1, fun i p' v' hi hv' => ?_⟩
    cases i with
    | zero =>
      simp only [List.map_cons, List.getElem?_cons_zero, Option.some.injEq] at hi hv'
      subst hi; subst hv'
      simp only [Option.map_eq_some_iff] at hq
      obtain ⟨sv, hsv, rfl⟩ := hq
      have := operand_rep hrel hv (hal p (by simp))
      cases v with
      | tup l => cases hsv
      | g _ _ _ => cases hsv
      | s x => cases hsv; exact ⟨rfl, this⟩
    | succ i => exact h2 i p' v' (by simpa using hi) (by simpa using hv')

theorem mem_snd {ps : Array (Nat × Operand)} {p : Nat × Operand} (h : p ∈ ps.toList) : p.2 ∈ (ps.toList.map (·.2)).toArray := by
  simp only [List.mem_toArray, List.mem_map]
  exact ⟨p, h, rfl⟩

theorem mapM_places (P : Program) (w : World) : ∀ (l : List Field) (pl : List (Nat × Nat)), (l.mapM fun (f : Field) => (szOf P f.type).map fun s => (f.offset, s)) = some pl →
    (l.mapM (m := Sem) fun (f : Field) => do pure (f.offset, ← sizeOf f.type)).run P w = .ok pl w
  | [], pl, h => by simp at h; subst h; rfl
  | f :: l, pl, h => by
    simp only [List.mapM_cons, bind, Option.bind_eq_some_iff, pure, Option.some.injEq, Option.map_eq_some_iff] at h
    obtain ⟨q, ⟨s, hs, rfl⟩, pl', hpl', rfl⟩ := h
    have ih := mapM_places P w l pl' hpl'
    rw [List.mapM_cons]
    simp only [Sem.run_bind, run_sizeOf' hs, Result.andThen_ok, Sem.run_pure, ih]

theorem arr_mapM {α β : Type} (f : α → Sem β) (l : Array α) (P : Program) (w : World) : (l.mapM f).run P w = ((l.toList.mapM f).run P w).andThen fun x w' => .ok x.toArray w' := by
  rw [Array.mapM_eq_mapM_toList, Sem.run_map]

theorem sim_build {t : TypeId} {ps : Array (Nat × Operand)} (h : aop E tm H nb ⟨dst, .build t ps, ty, pos, after, guard⟩ K = some r) : Does E tm H nb ⟨dst, .build t ps, ty, pos, after, guard⟩ K r := by
  simp only [aop, Option.bind_eq_some_iff] at h
  obtain ⟨z, hz, vs, hvs, cs, hcs, v, hv, hK⟩ := h
  refine ⟨_, hK, .of_value fun t' h' κ R a w hal hrel => ?_⟩
  obtain ⟨zv, z1, z2, z3⟩ := run_zero' hz w
  obtain ⟨p1, p2⟩ := parts_rep hrel ps.toList vs hvs (fun p hp => hal.opnd (by simp only [Op.operands]; exact mem_snd hp))
  have hparts : (ps.map fun (p : Nat × Operand) => (p.1, a.eval p.2)).toList = ps.toList.map fun p => (p.1, a.eval p.2) := by simp
  have hzc : zv.cells = z.toArray := by rw [← z2]
  split at hcs
  · next fs hu =>
    simp only [Option.bind_eq_some_iff] at hcs
    obtain ⟨pl, hpl, hf⟩ := hcs
    obtain ⟨zs, hz1, hz2⟩ := fill_rep vs _ _ cs z p1 p2 (creps_vals z3) hf
    obtain ⟨hs, _⟩ := mkC_rep hv hz2
    refine ⟨.agg zs.toArray, ?_, hs⟩
    simp only [execOp, Instr.build, Sem.run_bind, z1, Result.andThen_ok, run_underlying' hu, arr_mapM, mapM_places E.P w fs.toList pl hpl, hzc, hparts]
    have : (fun (i : Nat) => (pl.toArray)[i]?) = (fun (i : Nat) => pl[i]?) := by funext i; simp
    rw [this, hz1]
    rfl
  · next m e hu =>
    simp only [Option.bind_eq_some_iff] at hcs
    obtain ⟨s, hs, hf⟩ := hcs
    obtain ⟨zs, hz1, hz2⟩ := fill_rep vs _ _ cs z p1 p2 (creps_vals z3) hf
    obtain ⟨hsr, _⟩ := mkC_rep hv hz2
    refine ⟨.agg zs.toArray, ?_, hsr⟩
    simp only [execOp, Instr.build, Sem.run_bind, z1, Result.andThen_ok, run_underlying' hu, run_sizeOf' hs, hzc, hparts, hz1]
    rfl
  · cases hcs

theorem sim_buildSlice {t : TypeId} {len : Nat} {ps : Array (Nat × Operand)} (h : aop E tm H nb ⟨dst, .buildSlice t len ps, ty, pos, after, guard⟩ K = some r) : Does E tm H nb ⟨dst, .buildSlice t len ps, ty, pos, after, guard⟩ K r := by
  simp only [aop, Option.bind_eq_some_iff] at h
  obtain ⟨e, he, s, hs, z, hz, vs, hvs, h⟩ := h
  have hu : E.P.underlying t = some (.slice e) := by
    unfold elemT at he
    split at he
    · next hu => cases he; exact hu
    · cases he
  split at h
  · next hcond =>
    obtain ⟨hzl, hs0, hbig⟩ := hcond
    simp only [Option.bind_eq_some_iff] at h
    obtain ⟨cs, hcs, h⟩ := h
    -- the machine's cells
    have hrun : ∀ (t' : Nat → AV) (h' : Nat → Ob) (κ : Kap) (R : Nat → Prop) (a : Act) (w : World), (∀ x ∈ opndTmps ⟨dst, .buildSlice t len ps, ty, pos, after, guard⟩, t' x = tget tm x) → Rel E.G κ R tm.length t' h' a w →
        ∃ ys : List Value, CReps κ R h' w cs ys ∧ cs.length = len * s ∧
          (execOp a.eval ⟨dst, .buildSlice t len ps, ty, pos, after, guard⟩).run E.P w = .ok (.value (.slice (some ⟨w.heap.size, 0, none⟩) len len)) (w.alloc (.cells ys.toArray e)) := by
      intro t' h' κ R a w hal hrel
      obtain ⟨zv, z1, z2, z3⟩ := run_zero' hz w
      obtain ⟨p1, p2⟩ := parts_rep hrel ps.toList vs hvs (fun p hp t ht => hal t (mem_opnd (by simp only [Op.operands]; rw [← ht]; exact mem_snd hp)))
      have hparts : (ps.map fun (p : Nat × Operand) => (p.1, a.eval p.2)).toList = ps.toList.map fun p => (p.1, a.eval p.2) := by simp
      have hzc : zv.cells = z.toArray := by rw [← z2]
      have hbase : CReps κ R h' w (flatZero z len) (List.replicate len z).flatten := by
        rw [flatZero_eq]
        exact creps_vals (fun x hx => by
          simp only [List.mem_flatten, List.mem_replicate] at hx
          obtain ⟨l, ⟨_, rfl⟩, hx⟩ := hx
          exact z3 x hx)
      obtain ⟨zs, hz1, hz2⟩ := fill_rep vs _ _ cs _ p1 p2 hbase hcs
      refine ⟨zs, hz2, ?_, ?_⟩
      · have : ∀ (ps : List (Nat × SV)) (c c' : List C), fillC (fun i => some (i * s, s)) c ps = some c' → c'.length = c.length := by
          intro ps
          induction ps with
          | nil => intro c c' hf; cases hf; rfl
          | cons q ps ih =>
            intro c c' hf
            obtain ⟨i, sv⟩ := q
            simp only [fillC, Option.bind_some, Option.bind_eq_some_iff] at hf
            obtain ⟨xs, hxs, hf⟩ := hf
            split at hf
            · next hc => rw [ih _ _ hf, splice_length _ _ _ (by omega)]
            · cases hf
        rw [this vs _ cs hcs, hbase.1]
        simp [hzl]
      · have hcells : ((Array.range (len * s)).map (fun i => z.toArray[i % s]!)) = ((List.replicate len z).flatten).toArray := by
          apply Array.ext'
          rw [← zeros_list hzl hs0 len]
          simp
        simp only [execOp, Instr.buildSlice, Sem.run_bind, run_underlying' hu, Result.andThen_ok, run_sizeOf' hs]
        rw [if_neg (by omega)]
        by_cases h0 : len * s = 0
        · have hl0 : len = 0 := by
            rcases Nat.mul_eq_zero.1 h0 with h | h
            · exact h
            · omega
          subst hl0
          simp only [h0, if_true, Sem.run_bind, Sem.run_pure, Result.andThen_ok, hparts]
          have hz1' : Instr.fill (fun i => some (i * s, s)) (Array.map (fun x => (#[] : Array Value)[x % (#[] : Array Value).size]!) (Array.range 0)) (ps.toList.map fun p => (p.1, a.eval p.2)) = some zs.toArray := by
            have hr0 : Array.map (fun x => (#[] : Array Value)[x % (#[] : Array Value).size]!) (Array.range 0) = ((List.replicate 0 z).flatten).toArray := by apply Array.ext'; simp
            rw [hr0]; exact hz1
          rw [hz1']
          rfl
        · rw [if_neg h0]
          simp only [Sem.run_bind, z1, Result.andThen_ok, Sem.run_pure, hzc, hparts]
          have hzs : z.toArray.size = s := by simpa using hzl
          rw [hzs, hcells, hz1]
          rfl
    split at h
    · next hm =>
      refine ⟨_, h, fun t' h' κ R a w hal hrel => ?_⟩
      obtain ⟨ys, hys, hlen, hrun⟩ := hrun t' h' κ R a w hal.tmps hrel
      obtain ⟨κ', k1, k2, k3⟩ := new_box (G := E.G) (nb := nb) hrel.heap (hal.free nb (Nat.le_refl _) (by simp)) s e hys
      refine ⟨κ', R, _, _, .inl hrun, ?_, k2, k3⟩
      refine .own nb 0 len len _ s (by rw [put_get]; rfl) (Nat.le_refl _) (fun e => by cases e) (.inr ⟨w.heap.size, 0, k1, by simp, ?_⟩)
      exact ⟨ys.toArray, e, (0, 0), by show (w.heap.push _)[w.heap.size]? = _; simp, by simp [← hys.1, hlen]⟩
    · next hm =>
      simp only [Option.bind_eq_some_iff] at h
      obtain ⟨q, hq, hK⟩ := h
      refine ⟨_, hK, fun t' h' κ R a w hal hrel => ?_⟩
      obtain ⟨ys, hys, hlen, hrun⟩ := hrun t' h' κ R a w hal.tmps hrel
      obtain ⟨R1, a1, a2, a3, a4⟩ := toPs_step (G := E.G) (κ := κ) cs q.1 q.2.1 q.2.2 ys h' R hq (toPs_regs cs q.1 q.2.1 q.2.2 hq (fun r hr => hal.regs r hr)) hrel.heap hys
      have hql : q.1.length = len * s := by rw [a3.1, ← hys.1, hlen]
      obtain ⟨c1, c2, c3⟩ := chunk_get (s := s) len q.1 hql
      obtain ⟨κ', k1, k2, k3⟩ := new_arr (G := E.G) (nb := nb) (rest := []) a1 (a4 nb (hal.free nb (Nat.le_refl _) (by simp))) e c1 (by rw [c2]; exact a3)
      rw [List.append_nil] at k2 k3
      have hput : putsF h' (q.2.1 ++ [.obj nb (.arr s false (chunk s len q.1))]) = putsF (putsF h' q.2.1) [.obj nb (.arr s false (chunk s len q.1))] := by simp [putsF, List.foldl_append]
      refine ⟨κ', R1, _, _, .inl hrun, ?_, by rw [hput]; exact k2, by rw [hput]; exact a2.trans k3⟩
      refine .own nb 0 len len _ s (by rw [hput, put_get]; rfl) (Nat.le_refl _) (fun e => by cases e) (.inr ⟨w.heap.size, 0, k1, by simp, ?_⟩)
      exact ⟨ys.toArray, e, (0, 0), by show (w.heap.push _)[w.heap.size]? = _; simp, by simp [← hys.1, hlen]⟩
  · cases h

end ops
end Go.Ev

namespace Go.Ev
open Go
variable {G : Nat → Option (List PC)}

section
variable {κ : Kap} {R : Nat → Prop} {h : Nat → Ob} {w : World}

theorem toPs_other {H : List Ob} {slot : Nat} : ∀ (cs : List C) (l : List PC) (wr : List Wr) (rd : List Reg), toPs H cs = some (l, wr, rd) → notIn slot rd = true → ∀ h : Nat → Ob, putsF h wr slot = h slot
  | [], l, wr, rd, ht, _, h => by cases ht; rfl
  | c :: cs, l, wr, rd, ht, hn, h => by
    simp only [toPs, Option.bind_eq_some_iff] at ht
    obtain ⟨x, hx, q, hq, ht⟩ := ht
    cases ht
    simp only [notIn, List.all_append, Bool.and_eq_true] at hn
    have h2 := toPs_other cs q.1 q.2.1 q.2.2 hq hn.2
    have hput : putsF h (x.2.1 ++ q.2.1) = putsF (putsF h x.2.1) q.2.1 := by simp [putsF, List.foldl_append]
    rw [hput, h2]
    unfold toP at hx
    split at hx
    · cases hx; rfl
    · next slot' off len =>
      split at hx
      · next s fz es hob =>
        split at hx
        · cases hx
          have h1 := hn.1
          simp only [List.all_cons, List.all_nil, Bool.and_true, bne_iff_ne, ne_eq] at h1
          simp only [putsF, List.foldl_cons, List.foldl_nil, Wr.putF]
          rw [if_neg (fun e => h1 e.symm)]
        · cases hx
      · cases hx
    · cases hx

/-- A block's cells are written. -/
theorem step_write (hH : HRep G κ R h w) {slot b o : Nat} {ob : Ob} {c c' : Array Value} {t : TypeId} {fr : Nat × Nat} {w' : World} (hw' : w' = { w with heap := w.heap.setIfInBounds b (.cells c' t fr) })
    (hl : (h slot).live = true) (hk : κ slot = some (b, o)) (hb : w.heap[b]? = some (.cells c t fr)) (hsz : c'.size = c.size) (hst : ob.stride = (h slot).stride)
    (hob : ∀ h', Ext κ R h w κ R h' w' → ¬ R b → w'.heap[b]? = some (.cells c' t fr) → ObRep κ R h' w' slot ob) :
    HRep G κ R (putsF h [.obj slot ob]) w' ∧ Fr κ R h w κ R (putsF h [.obj slot ob]) w' := by
  have hlt : b < w.heap.size := (Array.getElem?_eq_some_iff.1 hb).1
  have hblock : w'.heap[b]? = some (.cells c' t fr) := by subst hw'; simp [hlt]
  have he : putsF h [.obj slot ob] = fun s => if s = slot then ob else if (fun _ => false : Nat → Bool) s then .dead else h s := by
    funext s; simp [putsF, Wr.putF]
  have hκ : updN κ slot (some (b, o)) = κ := by funext i; by_cases hi : i = slot <;> simp [updN, hi, hk]
  have hnd : h slot ≠ .dead := by intro e; rw [e] at hl; cases hl
  have := step_put hH slot b o ob (fun _ => false) (w' := w') (by subst hw'; rfl) (by subst hw'; rfl) (by subst hw'; rfl) (by subst hw'; simp) (by subst hw'; simpa using hlt)
    (fun x hx _ => by subst hw'; simp only [Array.getElem?_setIfInBounds]; rw [if_neg (fun e => hx e.symm)])
    (fun c0 t0 fr0 hx => by rw [hb] at hx; cases hx; exact ⟨c', fr, hblock, hsz⟩)
    (.inr ⟨slot, o, hl, hk, .inl rfl⟩) (.inr ⟨hst, hk, hnd⟩) rfl (fun hext hR => by rw [hκ] at hext ⊢; exact hob _ hext hR hblock)
  rw [he]
  rwa [hκ] at this

theorem storeAt_run {P : Program} {t : TypeId} {n : Nat} (hn : szOf P t = some n) {b o : Nat} {c : Array Value} {ty : TypeId} {fr : Nat × Nat} {y : Value} (hb : w.heap[b]? = some (.cells c ty fr)) (ht : thawed c fr)
    (hy : ∀ v ∈ y.cells.toList, v.oneCell' = true) (hs : y.cells.size = n) (hl : o + n ≤ c.size) :
    (Instr.storeAt t (.pointer (some ⟨b, o, none⟩)) y).run P w = .ok () { w with heap := w.heap.setIfInBounds b (.cells (setRange c o y.cells.toList) ty fr) } := by
  simp only [Instr.storeAt, Instr.sureAddr, Sem.run_bind, Sem.run_pure, Result.andThen_ok, storeVar, run_sizeOf' hn]
  rw [if_neg (by simp [hs])]
  have := run_storeCells P y.cells.toList w b o 0 c ty fr hb ht hy (by simp [hs]; omega)
  simpa using this

/-- A box is written. -/
theorem write_box {P : Program} {t : TypeId} {n : Nat} {slot off : Nat} {cs0 xs : List C} {s : Nat} {x y : Value} (hH : HRep G κ R h w) (hn : szOf P t = some n) (hob : h slot = .box s cs0) (hoff : off + n ≤ cs0.length)
    (hc : CRep κ R h w (.bp slot off) x) (hx : CReps κ R h w xs y.cells.toList) (hxl : xs.length = n) :
    ∃ w', (Instr.storeAt t x y).run P w = .ok () w' ∧ HRep G κ R (putsF h [.obj slot (.box s (splice cs0 off xs))]) w' ∧ Fr κ R h w κ R (putsF h [.obj slot (.box s (splice cs0 off xs))]) w' := by
  cases hc with
  | bpDead _ _ _ hd => rw [hob] at hd; cases hd
  | bp _ _ b o s0 hst hk =>
    have hor := hH.obs slot
    rw [hob] at hor
    obtain ⟨b', o', c, ty, fr, h1, h2, h3, h4, h5, h6⟩ := hor
    rw [hk] at h1; cases h1
    have hys : y.cells.size = n := by have := hx.1; rw [hxl] at this; simpa using this.symm
    refine ⟨_, storeAt_run hn h2 h3 hx.ones hys (by omega), ?_⟩
    refine step_write hH rfl (by rw [hob]; rfl) hk h2 (setRange_size _ _ _) (by rw [hob]; rfl) (fun h' he hR hb => ?_)
    refine ⟨b, o, _, ty, fr, hk, hb, ?_, hR, ?_, fun j x hj => ?_⟩
    · intro j hj; exact h3 j (by rwa [setRange_size] at hj)
    · rw [setRange_size, splice_length _ _ _ (by omega)]; exact h5
    · rw [splice_get _ _ _ _ (by omega)] at hj
      rw [setRange_get _ _ _ _ (by simp [hys]; omega)]
      have hyl : y.cells.toList.length = n := by simp [hys]
      split at hj
      · next hin =>
        rw [if_pos (by rw [hyl]; omega)]
        have hlt : j - off < y.cells.toList.length := by omega
        refine ⟨y.cells.toList[j - off], by rw [show o + j - (o + off) = j - off by omega]; exact List.getElem?_eq_getElem hlt, (hx.2 (j - off) x _ hj (List.getElem?_eq_getElem hlt)).ext he⟩
      · next hin =>
        rw [if_neg (by rw [hyl]; omega)]
        obtain ⟨z, hz, hr⟩ := h6 j x hj
        exact ⟨z, hz, hr.ext he⟩

/-- An array's element is written. -/
theorem write_arr {P : Program} {t : TypeId} {n : Nat} {slot i off s : Nat} {es : List (List PC)} {e xs : List PC} {x y : Value} (hH : HRep G κ R h w) (hn : szOf P t = some n) (hob : h slot = .arr s false es) (hi : es[i]? = some e) (hoff : off + n ≤ e.length)
    (hc : CRep κ R h w (.ap slot i off) x) (hx : PReps R w xs y.cells.toList) (hxl : xs.length = n) :
    ∃ w', (Instr.storeAt t x y).run P w = .ok () w' ∧ HRep G κ R (putsF h [.obj slot (.arr s false (es.set i (splice e off xs)))]) w' ∧ Fr κ R h w κ R (putsF h [.obj slot (.arr s false (es.set i (splice e off xs)))]) w' := by
  cases hc with
  | apDead _ _ _ _ hd => rw [hob] at hd; cases hd
  | ap _ _ _ b o s0 hst hk =>
    rw [hob] at hst; simp only [Ob.stride, Option.some.injEq] at hst; subst hst
    have hor := hH.obs slot
    rw [hob] at hor
    rcases hor with ⟨h1, h2⟩ | ⟨b', o', c, ty, fr, h1, h2, h3, h4, h5, h6, h7⟩
    · rw [hk] at h1; cases h1
    · rw [hk] at h1; cases h1
      have hys : y.cells.size = n := by have := hx.1; rw [hxl] at this; simpa using this.symm
      have hyl : y.cells.toList.length = n := by simp [hys]
      have hel : e.length = s := (h7 i e hi).1
      have hilt : i < es.length := (List.getElem?_eq_some_iff.1 hi).1
      have hbound : i * s + s ≤ es.length * s := by
        have := Nat.mul_le_mul_right s (show i + 1 ≤ es.length from hilt)
        rw [Nat.add_mul] at this; omega
      have hones : ∀ v ∈ y.cells.toList, v.oneCell' = true := by
        intro v hv
        obtain ⟨k, hk'⟩ := List.mem_iff_getElem?.1 hv
        have hlt : k < xs.length := by rw [hx.1]; exact (List.getElem?_eq_some_iff.1 hk').1
        exact (hx.2 k _ v (List.getElem?_eq_getElem hlt) hk').oneCell
      refine ⟨_, storeAt_run hn h2 h3 hones hys (by omega), ?_⟩
      refine step_write hH rfl (by rw [hob]; rfl) hk h2 (setRange_size _ _ _) (by rw [hob]; rfl) (fun h' he hR hb => ?_)
      refine .inr ⟨b, o, _, ty, fr, hk, hb, ?_, fun hz => (by cases hz), fun _ => hR, ?_, fun i' e' hi' => ?_⟩
      · intro j hj; exact h3 j (by rwa [setRange_size] at hj)
      · rw [setRange_size, List.length_set]; exact h6
      · rw [List.getElem?_set] at hi'
        by_cases hii : i = i'
        · subst hii
          rw [if_pos rfl, if_pos hilt] at hi'
          cases hi'
          refine ⟨by rw [splice_length _ _ _ (by omega)]; exact hel, fun j x' hj => ?_⟩
          rw [splice_get _ _ _ _ (by omega)] at hj
          rw [setRange_get _ _ _ _ (by rw [hyl]; omega), hyl]
          split at hj
          · next hin =>
            rw [if_pos (by omega)]
            have hlt : j - off < y.cells.toList.length := by omega
            refine ⟨y.cells.toList[j - off], by rw [show o + i * s + j - (o + i * s + off) = j - off by omega]; exact List.getElem?_eq_getElem hlt, (hx.2 (j - off) x' _ hj (List.getElem?_eq_getElem hlt)).ext he.r he.cells⟩
          · next hin =>
            rw [if_neg (by omega)]
            obtain ⟨z, hz, hr⟩ := (h7 i e hi).2 j x' hj
            exact ⟨z, hz, hr.ext he.r he.cells⟩
        · rw [if_neg hii] at hi'
          obtain ⟨q1, q2⟩ := h7 i' e' hi'
          refine ⟨q1, fun j x' hj => ?_⟩
          obtain ⟨z, hz, hr⟩ := q2 j x' hj
          have hjl : j < s := by rw [← q1]; exact (List.getElem?_eq_some_iff.1 hj).1
          refine ⟨z, ?_, hr.ext he.r he.cells⟩
          rw [setRange_get _ _ _ _ (by rw [hyl]; omega), hyl, if_neg]
          · exact hz
          · intro hin
            rcases Nat.lt_or_gt_of_ne hii with hlt | hgt
            · have := Nat.mul_le_mul_right s (show i + 1 ≤ i' from hlt)
              rw [Nat.add_mul] at this; omega
            · have := Nat.mul_le_mul_right s (show i' + 1 ≤ i from hgt)
              rw [Nat.add_mul] at this; omega

end

section ops
variable {ρ : Type} {E : Env} {tm : List AV} {H : List Ob} {nb : Nat} {K : Out → Option ρ} {r : ρ}
variable {dst : Option Tmp} {ty : TypeId} {pos : String} {after : Array Edge} {guard : Option (Nat × Bool)}

theorem sim_store {t : TypeId} {x z : Operand} (h : aop E tm H nb ⟨dst, .store t x z, ty, pos, after, guard⟩ K = some r) : Does E tm H nb ⟨dst, .store t x z, ty, pos, after, guard⟩ K r := by
  simp only [aop, Option.bind_eq_some_iff] at h
  obtain ⟨v, hv, u, hu, y, hy, hK⟩ := h
  have huy : u = .s y := by cases u with | tup l => cases hy | g _ _ _ => cases hy | s x => cases hy; rfl
  subst huy
  split at hK
  · next c =>
    unfold storeAt at hK
    simp only [Option.bind_eq_some_iff] at hK
    obtain ⟨n, hn, hK⟩ := hK
    split at hK
    · next slot off =>
      simp only [Option.bind_eq_some_iff] at hK
      obtain ⟨cs, hcs, hK⟩ := hK
      split at hK
      · next hlen =>
        simp only [Option.bind_eq_some_iff] at hK
        obtain ⟨old, hold, hK⟩ := hK
        refine ⟨_, hK, fun t' h' κ R a w hal hrel => ?_⟩
        have hbox : boxGetF h' slot off n = some old := by
          have := hal.regs (.box slot off n) (by simp)
          simp only [Reg.getF, RegValF.box.injEq] at this
          rw [this, boxGetF_get, hold]
        unfold boxGetF at hbox
        split at hbox
        · next s cs0 hob =>
          split at hbox
          · next hoff =>
            have hrx := operand_rep hrel hv (hal.opnd (by simp [Op.operands]))
            have hry := SRep.cells (operand_rep hrel hu (hal.opnd (by simp [Op.operands]))) hcs
            obtain ⟨w', h1, h2, h3⟩ := write_box (G := E.G) (P := E.P) hrel.heap hn hob hoff hrx hry hlen
            have hput : putsF h' [.box slot off cs] = putsF h' [.obj slot (.box s (splice cs0 off cs))] := by
              funext i; simp [putsF, Wr.putF, hob, hlen, hoff]
            refine ⟨κ, R, undef, w', .inr ⟨?_, rfl⟩, ?_, by rw [hput]; exact h2, by rw [hput]; exact h3⟩
            · simp only [execOp, Sem.run_bind, h1, Result.andThen_ok, Sem.run_pure]
            · exact ⟨[], rfl, rfl, fun i x y h => by simp at h⟩
          · cases hbox
        · cases hbox
      · cases hK
    · next slot i off =>
      simp only [Option.bind_eq_some_iff] at hK
      obtain ⟨cl, hcl, cs, hcs, hK⟩ := hK
      split at hK
      · next hlen =>
        split at hK
        · next s es hob =>
          simp only [Option.bind_eq_some_iff] at hK
          obtain ⟨e, he, hK⟩ := hK
          split at hK
          · next hoff =>
            refine ⟨_, hK, fun t' h' κ R a w hal hrel => ?_⟩
            have hsl : h' slot = .arr s false es := by
              have := hal.regs (.obj slot) (by simp)
              simp only [Reg.getF, RegValF.obj.injEq] at this
              rw [this]; simp [hget, hob]
            have hrx := operand_rep hrel hv (hal.opnd (by simp [Op.operands]))
            have hry := SRep.cells (operand_rep hrel hu (hal.opnd (by simp [Op.operands]))) hcl
            obtain ⟨R1, a1, a2, a3, _⟩ := toPs_step (G := E.G) (κ := κ) cl cs.1 cs.2.1 cs.2.2 _ h' R hcs (toPs_regs cl cs.1 cs.2.1 cs.2.2 hcs (fun q hq => hal.regs q (by simp [hq]))) hrel.heap hry
            have hsl1 : putsF h' cs.2.1 slot = .arr s false es := by rw [toPs_other cl cs.1 cs.2.1 cs.2.2 hcs hoff.2]; exact hsl
            obtain ⟨w', h1, h2, h3⟩ := write_arr (G := E.G) (P := E.P) a1 hn hsl1 he hoff.1 (CRep.ext a2.ext hrx) a3 hlen
            have hput : putsF h' (cs.2.1 ++ [.obj slot (.arr s false (es.set i (splice e off cs.1)))]) = putsF (putsF h' cs.2.1) [.obj slot (.arr s false (es.set i (splice e off cs.1)))] := by simp [putsF, List.foldl_append]
            refine ⟨κ, R1, undef, w', .inr ⟨?_, rfl⟩, ?_, by rw [hput]; exact h2, by rw [hput]; exact a2.trans h3⟩
            · simp only [execOp, Sem.run_bind, h1, Result.andThen_ok, Sem.run_pure]
            · exact ⟨[], rfl, rfl, fun i x y h => by simp at h⟩
          · cases hK
        · cases hK
      · cases hK
    · cases hK
  · cases hK

end ops
end Go.Ev

namespace Go.Ev
open Go
variable {G : Nat → Option (List PC)}

theorem growBy_le (need : Nat) : ∀ (r c : Nat), 256 ≤ c → c ≤ 2 * need → Builtin.growBy need r c ≤ 2 * need
  | 0, c, _, h => h
  | r + 1, c, h1, h2 => by
    unfold Builtin.growBy
    split
    · exact h2
    · exact growBy_le need r _ (by omega) (by omega)

theorem nextcap_le {need cap : Nat} (h : cap < need) : Builtin.nextslicecap need cap ≤ 2 * need := by
  unfold Builtin.nextslicecap
  split
  · omega
  · split
    · omega
    · exact growBy_le need 4 cap (by omega) (by omega)

section
variable {κ : Kap} {R : Nat → Prop} {h : Nat → Ob} {w : World}

theorem flat_inv {α : Type} {s : Nat} (hs : 0 < s) : ∀ {es : List (List α)} {k : Nat} {c : α}, (∀ l ∈ es, l.length = s) → es.flatten[k]? = some c → ∃ e, es[k / s]? = some e ∧ e[k % s]? = some c
  | [], k, c, _, h => by simp at h
  | l :: es, k, c, hl, h => by
    have hll := hl l (by simp)
    rw [List.flatten_cons] at h
    by_cases hk : k < s
    · rw [List.getElem?_append_left (by omega)] at h
      exact ⟨l, by rw [Nat.div_eq_of_lt hk]; rfl, by rw [Nat.mod_eq_of_lt hk]; exact h⟩
    · rw [List.getElem?_append_right (by omega), hll] at h
      obtain ⟨e, h1, h2⟩ := flat_inv hs (fun l' h' => hl l' (by simp [h'])) h
      have e1 : k / s = (k - s) / s + 1 := by
        have := Nat.div_eq_sub_div hs (show s ≤ k by omega)
        exact this
      have e2 : k % s = (k - s) % s := Nat.mod_eq_sub_mod (by omega)
      exact ⟨e, by rw [e1]; exact h1, by rw [e2]; exact h2⟩

theorem flat_len {α : Type} {s : Nat} : ∀ {es : List (List α)}, (∀ l ∈ es, l.length = s) → es.flatten.length = es.length * s
  | [], _ => by simp
  | l :: es, h => by rw [List.flatten_cons, List.length_append, flat_len (fun l' h' => h l' (by simp [h'])), h l (by simp), List.length_cons, Nat.add_mul]; omega

theorem regs_ob {H : List Ob} {h' : Nat → Ob} {slot : Nat} {ob : Ob} (hob : H[slot]? = some ob) (hr : (Reg.obj slot).getF h' = (Reg.obj slot).getF (hget H)) : h' slot = ob := by
  simp only [Reg.getF, RegValF.obj.injEq] at hr
  rw [hr]; simp [hget, hob]

/-- A slice's cells are read, whatever has been drawn. -/
theorem first_slice {P : Program} {A : Option Addr} {len L cap s b o : Nat} {ys : List Value} {w' : World} (hw : w'.heap = w.heap) (hl : ys.length = len * s) (h0 : len * s = 0 ∨ A = some ⟨b, o, none⟩)
    (hA : A = none → len = 0) (hc : ∀ (j : Nat) (y : Value), ys[j]? = some y → w.cell? ⟨b, o + j, none⟩ = some y) : (Builtin.firstCells s len (.slice A L cap)).run P w' = .ok ys.toArray w' := by
  cases A with
  | none =>
    have := hA rfl
    subst this
    have : ys = [] := List.eq_nil_of_length_eq_zero (by simpa using hl)
    subst this
    rfl
  | some a =>
    show (loadCells a (len * s)).run P w' = _
    rcases h0 with h0 | h0
    · rw [h0]
      have : ys = [] := List.eq_nil_of_length_eq_zero (by omega)
      subst this
      rfl
    · cases h0
      rw [← hl]
      exact run_loadCells P w' b o ys (fun j y hj => by rw [cell_of_block (w := w) (w' := w') (by rw [hw])]; exact hc j y hj)

theorem take_cells {w : World} {b o n : Nat} {ys : List Value} (h : ∀ (j : Nat) (y : Value), ys[j]? = some y → w.cell? ⟨b, o + j, none⟩ = some y) : ∀ (j : Nat) (y : Value), (ys.take n)[j]? = some y → w.cell? ⟨b, o + j, none⟩ = some y := by
  intro j y hj
  rw [List.getElem?_take] at hj
  split at hj
  · exact h j y hj
  · cases hj

/-- The elements of a slice. -/
theorem elems_pre {H : List Ob} {h' : Nat → Ob} {s : Nat} {c : C} {es : List (List PC)} {rd : List Reg} {y : Value} (hs : 0 < s) (he : elemsOf H s c = some (es, rd)) (hrd : ∀ q ∈ rd, q.getF h' = q.getF (hget H)) (hH : HRep G κ R h' w)
    (hc : CRep κ R h' w c y) : ∃ A cap, ∃ ys : List Value, y = .slice A es.length cap ∧ es.length ≤ cap ∧ (∀ e ∈ es, e.length = s) ∧ PReps R w es.flatten ys ∧
      ∀ (P : Program) (w' : World) (n : Nat), n ≤ es.length → w'.heap = w.heap → (Builtin.firstCells s n y).run P w' = .ok (ys.take (n * s)).toArray w' := by
  unfold elemsOf at he
  split at he
  · cases he
    cases hc with
    | p _ _ hp =>
      cases hp
      exact ⟨none, 0, [], rfl, Nat.le_refl _, fun e he => by simp at he, ⟨rfl, fun i c y h => by simp at h⟩, fun P w' n hn hw => by rw [List.take_nil]; rfl⟩
  · next s' nn es' =>
    split at he
    · next hss =>
      subst hss; cases he
      cases hc with
      | p _ _ hp =>
        cases hp with
        | sl _ _ _ A len cap f b o h1 h2 h3 h4 h5 h6 h7 =>
          subst h1
          have hall : ∀ e ∈ es, e.length = s := by
            intro e he
            obtain ⟨i, hi⟩ := List.mem_iff_getElem?.1 he
            exact (h6 i e hi).1
          obtain ⟨ys, y1, y2, y3⟩ := choose_vals (Q := PRep R w) es.flatten (fun k => w.cell? ⟨b, o + k, none⟩) (fun k c hk => by
            obtain ⟨e, e1, e2⟩ := flat_inv hs hall hk
            refine ⟨f (k / s) (k % s), ?_, h7 _ e _ c e1 e2⟩
            rw [← (h6 _ e e1).2 (k % s) (Nat.mod_lt _ hs)]
            congr 2
            have := Nat.div_add_mod k s
            rw [Nat.mul_comm] at this; omega)
          refine ⟨A, cap, ys, rfl, h2, hall, ⟨y1.symm, y3⟩, fun P w' n hn hw => ?_⟩
          have hmul : n * s ≤ es.length * s := Nat.mul_le_mul_right _ hn
          have hyl : ys.length = es.length * s := by rw [y1, flat_len hall]
          refine first_slice (b := b) (o := o) (len := n) (s := s) (ys := ys.take (n * s)) hw (by rw [List.length_take, hyl]; omega) ?_ (fun hA => by have := h4 hA; omega) (take_cells y2)
          by_cases hne : es = []
          · subst hne; exact .inl (by simp at hn; simp [hn])
          · exact .inr (h5 hne).1
    · cases he
  · next slot off len =>
    split at he
    · next s' fz es0 hob =>
      split at he
      · next hcond =>
        obtain ⟨hss, hlen⟩ := hcond
        subst hss; cases he
        have hsl := regs_ob hob (hrd (.obj slot) (by simp))
        have hel : ((es0.drop off).take len).length = len := by simp; omega
        cases hc with
        | ownDead _ _ _ _ hd => rw [hsl] at hd; cases hd
        | own _ _ _ cap A s0 g1 g2 g3 g4 =>
          rw [hsl] at g1; simp only [Ob.stride, Option.some.injEq] at g1; subst g1
          have hor := hH.obs slot
          rw [hsl] at hor
          rw [hel]
          rcases hor with ⟨h1, h2⟩ | ⟨b', o', c, t, fr, h1, h2, h3, h4, h5, h6, h7⟩
          · subst h2
            have : len = 0 := by simp at hlen; omega
            subst this
            refine ⟨A, cap, [], rfl, g2, fun e he => by simp at he, ⟨by simp, fun i c y h => by simp at h⟩, fun P w' n hn hw => ?_⟩
            have hn0 : n = 0 := by simpa using hn
            subst hn0
            exact first_slice (w := w) (b := 0) (o := 0) hw (by simp) (.inl (by simp)) (fun _ => rfl) (fun j y h => by simp at h)
          · have hall : ∀ e ∈ (es0.drop off).take len, e.length = s := by
              intro e he
              have := List.mem_of_mem_take he
              have := List.mem_of_mem_drop this
              obtain ⟨i, hi⟩ := List.mem_iff_getElem?.1 this
              exact (h7 i e hi).1
            obtain ⟨ys, y1, y2, y3⟩ := choose_vals (Q := PRep R w) ((es0.drop off).take len).flatten (fun k => w.cell? ⟨b', o' + off * s + k, none⟩) (fun k x hk => by
              obtain ⟨e, e1, e2⟩ := flat_inv hs hall hk
              rw [List.getElem?_take] at e1
              split at e1
              · rw [List.getElem?_drop] at e1
                obtain ⟨y, hy, hr⟩ := (h7 _ e e1).2 _ x e2
                refine ⟨y, ?_, hr⟩
                rw [cell_of_cells h2, ← hy]
                congr 1
                have := Nat.div_add_mod k s
                rw [Nat.mul_comm] at this
                rw [Nat.add_mul]; omega
              · cases e1)
            refine ⟨A, cap, ys, rfl, g2, hall, ⟨y1.symm, y3⟩, fun P w' n hn hw => ?_⟩
            have hyl : ys.length = len * s := by rw [y1, flat_len hall, hel]
            have hmul : n * s ≤ len * s := Nat.mul_le_mul_right _ hn
            refine first_slice (b := b') (o := o' + off * s) (len := n) (s := s) (ys := ys.take (n * s)) hw (by rw [List.length_take, hyl]; omega) ?_ (fun hA => by have := g3 hA; omega) (take_cells y2)
            rcases g4 with g4 | ⟨b, o, k1, k2, k3⟩
            · exact .inl (by have : n = 0 := by omega
                             simp [this])
            · rw [k1] at h1; cases h1; exact .inr k2
      · cases he
    · cases he
  · cases he

theorem elems_rep {H : List Ob} {h' : Nat → Ob} {s : Nat} {c : C} {es : List (List PC)} {rd : List Reg} {y : Value} (hs : 0 < s) (he : elemsOf H s c = some (es, rd)) (hrd : ∀ q ∈ rd, q.getF h' = q.getF (hget H)) (hH : HRep G κ R h' w)
    (hc : CRep κ R h' w c y) : ∃ A cap, ∃ ys : List Value, y = .slice A es.length cap ∧ es.length ≤ cap ∧ (∀ e ∈ es, e.length = s) ∧ PReps R w es.flatten ys ∧
      ∀ (P : Program) (w' : World), w'.heap = w.heap → (Builtin.firstCells s es.length y).run P w' = .ok ys.toArray w' := by
  obtain ⟨A, cap, ys, h1, h2, h3, h4, h5⟩ := elems_pre hs he hrd hH hc
  refine ⟨A, cap, ys, h1, h2, h3, h4, fun P w' hw => ?_⟩
  rw [h5 P w' _ (Nat.le_refl _) hw, List.take_of_length_le (by rw [← h4.1, flat_len h3]; exact Nat.le_refl _)]

/-- What append does: the elements fit, or a new array is made. -/
theorem append_run {P : Program} {ts : Array TypeId} {ty st e : TypeId} {s by_ len cap n : Nat} {A : Option Addr} {x : Value} {z : List Value} {oldys newys : List Value} (hu : P.underlying st = some (.slice e)) (hs : szOf P e = some s) (hby : bytesOfT P e = some by_)
    (hz : zeroCells P e = some z) (ht0 : ts[0]? = some st) (ht1 : ∃ d u, ts[1]? = some u ∧ P.underlying u = some d ∧ (∀ k, d ≠ .int k))
    (hx : (Builtin.lenOf x).run P w = .ok n w) (hb0 : 0 < by_) (hb : (len + n) * by_ ≤ 140737488355328)
    (hold : ∀ w' : World, w'.heap = w.heap → (Builtin.firstCells s len (.slice A len cap)).run P w' = .ok oldys.toArray w') (hnew : ∀ w' : World, w'.heap = w.heap → (Builtin.firstCells s n x).run P w' = .ok newys.toArray w') :
    (len + n ≤ cap ∧ (Builtin.append_ ts ty #[.slice A len cap, x]).run P w = (((match A with | some a => storeCells (a.add (len * s)) newys | none => pure ()) : Sem Unit).run P w).andThen fun _ w' => .ok (.slice A (len + n) cap) w') ∨
    (cap < len + n ∧ ∃ (cap' : Nat) (rest : List Value), len + n ≤ cap' ∧
      (Builtin.append_ ts ty #[.slice A len cap, x]).run P w = .ok (.slice (some ⟨w.heap.size, 0, none⟩) (len + n) cap') (w.drew.alloc (.cells (oldys ++ newys ++ rest).toArray e)) ∧ rest.length = (cap' - (len + n)) * z.length) := by
  obtain ⟨d, u, ht1, hu1, hd⟩ := ht1
  obtain ⟨zv, z1, z2, z3⟩ := run_zero' hz w
  have hby' : ∃ i, P.info? e = some i ∧ i.bytes = by_ := by
    unfold bytesOfT at hby
    simp only [Option.map_eq_some_iff] at hby
    exact hby
  obtain ⟨i, hi, hib⟩ := hby'
  have hti : ∀ w' : World, (typeInfo e).run P w' = .ok i w' := fun w' => by simp [typeInfo, hi]
  have hzero : ∀ w' : World, (zeroValue e).run P w' = .ok zv w' := by
    intro w'
    obtain ⟨v', q1, q2, _⟩ := run_zero' hz w'
    have : v' = zv := by
      have e1 : (zeroValue e).run P w = .ok zv w := z1
      simp only [zeroValue, Sem.run_bind, hti, Result.andThen_ok] at e1 q1
      cases hzz : i.zero with
      | none => rw [hzz] at e1; cases e1
      | some v => rw [hzz] at e1 q1; simp only [Sem.run_pure, Result.ok.injEq] at e1 q1; rw [← e1.1, ← q1.1]
    rw [q1, this]
  have hnotint : (match d with | .int _ => true | _ => false) = false := by
    cases d with
    | int k => exact absurd rfl (hd k)
    | _ => rfl
  have ha0 : (#[Value.slice A len cap, x] : Array Value)[0]? = some (.slice A len cap) := rfl
  have ha1 : (#[Value.slice A len cap, x] : Array Value)[1]? = some x := rfl
  have hneed : len + n ≤ 140737488355328 := Nat.le_trans (Nat.le_mul_of_pos_right _ hb0) hb
  by_cases hfit : len + n ≤ cap
  · refine .inl ⟨hfit, ?_⟩
    unfold Builtin.append_
    rw [ht0, ha0, ha1]
    simp only [Sem.run_bind, run_underlying' hu, Result.andThen_ok, run_sizeOf' hs, ht1, run_underlying' hu1, Sem.run_pure]
    simp only [Bool.false_eq_true, if_false, Sem.run_bind, hx, Result.andThen_ok, if_pos hfit, Bool.not_false, if_true, hnew w rfl]
    cases A with
    | none => simp
    | some a =>
      simp only [Sem.run_bind]
      congr 1
  · refine .inr ⟨by omega, ?_⟩
    have hcap := nextcap_le (need := len + n) (cap := cap) (by omega)
    have hcap2 : ¬ (Builtin.nextslicecap (len + n) cap * i.bytes > 2 ^ 48) := by
      rw [hib]
      have h1 : Builtin.nextslicecap (len + n) cap * by_ ≤ 2 * (len + n) * by_ := Nat.mul_le_mul_right _ hcap
      rw [Nat.mul_assoc] at h1
      omega
    have hmax : ¬ (((len + n : Nat) : Int) > IntKind.i64.max ∧ (False ∨ i.bytes = 0)) := by
      rintro ⟨_, h | h⟩
      · exact h
      · omega
    refine ⟨(len + n) + w.tape w.drawn (.appendCap (len + n) cap e) % (2 ^ 63 - (len + n)), (Builtin.zeroCells zv.cells (w.tape w.drawn (.appendCap (len + n) cap e) % (2 ^ 63 - (len + n)))).toList, by omega, ?_, ?_⟩
    · unfold Builtin.append_
      rw [ht0, ha0, ha1]
      simp only [Sem.run_bind, run_underlying' hu, Result.andThen_ok, run_sizeOf' hs, ht1, run_underlying' hu1, Sem.run_pure]
      simp only [Bool.false_eq_true, if_false, Sem.run_bind, hx, Result.andThen_ok, if_neg hfit, hti, if_neg hmax, if_neg hcap2, run_choose, Question.forced, Question.cut, run_askRoom, hold w.drew rfl, Bool.not_false, if_true, hnew w.drew rfl, World.drew_eq, hzero,
        newRow, run_newObj, Sem.run_pure, Nat.add_sub_cancel_left, World.alloc_eq]
      congr 3
      apply Array.ext'
      simp
    · simp [Builtin.zeroCells, ← z2]

/-- An empty array that lies nowhere. -/
theorem step_none (hH : HRep G κ R h w) {nb : Nat} (hv : h nb = .void) (s : Nat) :
    HRep G (updN κ nb none) R (putsF h [.obj nb (.arr s false [])]) w ∧ Fr κ R h w (updN κ nb none) R (putsF h [.obj nb (.arr s false [])]) w := by
  have he : ∀ i, putsF h [.obj nb (.arr s false [])] i = if i = nb then .arr s false [] else h i := fun i => by simp [putsF, Wr.putF]
  have hext : Ext κ R h w (updN κ nb none) R (putsF h [.obj nb (.arr s false [])]) w := ⟨fun _ hx => hx, fun _ _ => rfl, fun b c t fr hx => ⟨c, fr, hx, rfl⟩, fun i => by
    by_cases hi : i = nb
    · exact .inl (by rw [hi]; exact hv)
    · by_cases hd : h i = .dead
      · exact .inr (.inl (by rw [he, if_neg hi]; exact hd))
      · exact .inr (.inr ⟨by simp [updN, hi], by rw [he, if_neg hi], hd⟩)⟩
  refine ⟨hH.step hext (fun i => i = nb) (fun i hi => ⟨by rw [he, if_neg hi], by simp [updN, hi], fun _ _ _ _ => rfl, fun hl x o hk => (hH.obs i).notR hl hk⟩) (fun i hi => ?_) (fun i j x o o' hi _ _ hk _ => ?_) hH.old, ?_⟩
  · subst hi; rw [he, if_pos rfl]; exact .inl ⟨by simp [updN], rfl⟩
  · subst hi; simp [updN] at hk
  · refine ⟨hext, rfl, rfl, rfl, Nat.le_refl _, fun _ _ _ => rfl, fun i x o hl hk => .inr ?_, fun x hx => .inl hx⟩
    by_cases hi : i = nb
    · subst hi; simp [updN] at hk
    · rw [he, if_neg hi] at hl; simp only [updN, if_neg hi] at hk; exact ⟨i, o, hl, hk⟩

/-- The world behind a draw. -/
theorem step_drew (hH : HRep G κ R h w) : HRep G κ R h w.drew ∧ Fr κ R h w κ R h w.drew := step_same hH rfl rfl rfl rfl

/-- A new array in new memory, behind a draw, its cells those of what was there and of what is laid behind it. -/
theorem own_new {κ' : Kap} {h' : Nat → Ob} {w1 : World} {nb b n cap' s : Nat} {c : Array Value} {t : TypeId} {fr : Nat × Nat} (hst : (h' nb).stride = some s) (hk : κ' nb = some (b, 0)) (hn : n ≤ cap') (hb : w1.heap[b]? = some (.cells c t fr)) (hc : cap' * s ≤ c.size) :
    CRep κ' R h' w1 (.own nb 0 n) (.slice (some ⟨b, 0, none⟩) n cap') :=
  .own nb 0 n cap' _ s hst hn (fun e => by cases e) (.inr ⟨b, 0, hk, by simp, c, t, fr, hb, by simpa using hc⟩)

theorem appendTo_sim {ρ : Type} {E : Env} {H : List Ob} {nb : Nat} {t : TypeId} {x : C} {new : List (List PC)} {rd : List Reg} {K : Out → Option ρ} {r : ρ} (hh : appendTo E H nb t x new rd K = some r) :
    ∃ out, K out = some r ∧ (∀ q ∈ rd, q ∈ out.rd) ∧ nb < out.nb ∧ ∀ (e : TypeId) (s : Nat), elemT E.P t = some e → szOf E.P e = some s → ∀ (h' : Nat → Ob) (κ : Kap) (R : Nat → Prop) (w : World) (y0 yx : Value) (ts : Array TypeId) (ty : TypeId) (newys : List Value), (∀ q ∈ out.rd, q.getF h' = q.getF (hget H)) → h' nb = .void → HRep E.G κ R h' w → CRep κ R h' w x y0 →
      (∀ l ∈ new, l.length = s) → PReps R w new.flatten newys → ts[0]? = some t → (∃ d u, ts[1]? = some u ∧ E.P.underlying u = some d ∧ (∀ k, d ≠ .int k)) → (Builtin.lenOf yx).run E.P w = .ok new.length w →
      (∀ w' : World, w'.heap = w.heap → (Builtin.firstCells s new.length yx).run E.P w' = .ok newys.toArray w') →
      ∃ κ' y1 w1, (Builtin.append_ ts ty #[y0, yx]).run E.P w = .ok y1 w1 ∧ VRep κ' R (putsF h' out.wr) w1 out.v y1 ∧ HRep E.G κ' R (putsF h' out.wr) w1 ∧ Fr κ R h' w κ' R (putsF h' out.wr) w1 := by
  unfold appendTo at hh
  simp only [Option.bind_eq_some_iff] at hh
  obtain ⟨e0, he0, s0, hs0, by_, hby, z, hz, hh⟩ := hh
  have hu : E.P.underlying t = some (.slice e0) := by
    unfold elemT at he0
    split at he0
    · next hu => cases he0; exact hu
    · cases he0
  split at hh
  · next hcond =>
    obtain ⟨hzl, hspos, hbpos⟩ := hcond
    split at hh
    · -- nil
      by_cases hb : new.length * by_ ≤ 140737488355328
      · simp only [hb, decide_true, cond_true] at hh
        refine ⟨_, hh, fun q hq => hq, Nat.lt_succ_self _, fun e s he hs h' κ R w y0 yx ts ty newys hrd hv hH hc hall hnew ht0 ht1 hlen hfirst => ?_⟩
        rw [he0] at he; cases he
        rw [hs0] at hs; cases hs
        have hy0 : y0 = .slice none 0 0 := by cases hc with | p _ _ hp => cases hp; rfl
        subst hy0
        rcases append_run (ty := ty) (oldys := []) (newys := newys) hu hs0 hby hz ht0 ht1 hlen hbpos (len := 0) (cap := 0) (A := none) (by simpa using hb) (fun w' hw => rfl) hfirst with ⟨hfit, hrun⟩ | ⟨hlt, cap', rest, hcap, hrun, hrest⟩
        · have hn : new = [] := List.eq_nil_of_length_eq_zero (by omega)
          subst hn
          obtain ⟨k1, k2⟩ := step_none hH hv s0
          refine ⟨_, _, _, by rw [hrun]; rfl, ?_, k1, k2⟩
          exact .own nb 0 0 0 none s0 (by rw [put_get]; rfl) (Nat.le_refl _) (fun _ => rfl) (.inl rfl)
        · obtain ⟨d1, d2⟩ := step_drew hH
          obtain ⟨κ', k1, k2, k3⟩ := new_arr (G := E.G) (nb := nb) (rest := rest) d1 hv e0 hall (hnew.ext d2.ext.r d2.ext.cells)
          have hblk : (w.drew.alloc (.cells (newys ++ rest).toArray e0)).heap[w.heap.size]? = some (.cells (newys ++ rest).toArray e0 (0, 0)) := by
            show (w.heap.push _)[w.heap.size]? = _; simp
          rw [List.nil_append] at hrun
          refine ⟨κ', _, _, hrun, ?_, k2, d2.trans k3⟩
          rw [Nat.zero_add]
          refine own_new (s := s0) (by rw [put_get]; rfl) k1 (by omega) hblk ?_
          have h1 := hnew.1
          rw [flat_len hall] at h1
          have h2 : cap' * s0 = new.length * s0 + (cap' - (0 + new.length)) * s0 := by rw [← Nat.add_mul]; congr 1; omega
          simp only [List.size_toArray, List.length_append, hrest, hzl]
          omega
      · simp [hb] at hh
    · next slot off len =>
      split at hh
      · next s' es hob =>
        split at hh
        · next hcond2 =>
          obtain ⟨hss, hol⟩ := hcond2
          subst hss
          by_cases hb : (len + new.length) * by_ ≤ 140737488355328
          · simp only [hb, decide_true, cond_true] at hh
            refine ⟨_, hh, fun q hq => by simp [hq], Nat.lt_succ_self _, fun e s he hs h' κ R w y0 yx ts ty newys hrd hv hH hc hall hnew ht0 ht1 hlen hfirst => ?_⟩
            rw [he0] at he; cases he
            rw [hs0] at hs; cases hs
            have hsl := regs_ob hob (hrd (.obj slot) (by simp))
            have hne : slot ≠ nb := by intro e; subst e; rw [hsl] at hv; cases hv
            have helems : elemsOf H s0 (.own slot off len) = some ((es.drop off).take len, [.obj slot]) := by simp [elemsOf, hob, hol]
            obtain ⟨A, cap, oldys, hy0, hlc, holdall, holdreps, holdfirst⟩ := elems_rep hspos helems (fun q hq => hrd q (by simp at hq; simp [hq])) hH hc
            have hel : ((es.drop off).take len).length = len := by simp; omega
            rw [hel] at hy0 hlc holdfirst
            subst hy0
            have hcontent : PReps R w ((es.drop off).take len ++ new).flatten (oldys ++ newys) := by
              rw [List.flatten_append]
              refine ⟨by simp [holdreps.1, hnew.1], fun i c y h1 h2 => ?_⟩
              by_cases hi : i < oldys.length
              · rw [List.getElem?_append_left (by rw [holdreps.1]; exact hi)] at h1
                rw [List.getElem?_append_left hi] at h2
                exact holdreps.2 i c y h1 h2
              · rw [List.getElem?_append_right (by rw [holdreps.1]; omega), holdreps.1] at h1
                rw [List.getElem?_append_right (by omega)] at h2
                exact hnew.2 _ c y h1 h2
            have hallc : ∀ l ∈ (es.drop off).take len ++ new, l.length = s0 := by
              intro l hl
              rw [List.mem_append] at hl
              rcases hl with hl | hl
              · exact holdall l hl
              · exact hall l hl
            rcases append_run (ty := ty) (oldys := oldys) (newys := newys) hu hs0 hby hz ht0 ht1 hlen hbpos hb (fun w' hw => holdfirst E.P w' hw) hfirst with ⟨hfit, hrun⟩ | ⟨hlt, cap', rest, hcap, hrun, hrest⟩
            · have hnl : newys.length = new.length * s0 := by rw [← hnew.1, flat_len hall]
              have hones : ∀ v ∈ newys, v.oneCell' = true := by
                intro v hv'
                obtain ⟨k, hk'⟩ := List.mem_iff_getElem?.1 hv'
                have hlt : k < new.flatten.length := by rw [hnew.1]; exact (List.getElem?_eq_some_iff.1 hk').1
                exact (hnew.2 k _ v (List.getElem?_eq_getElem hlt) hk').oneCell
              cases hc with
              | ownDead _ _ _ _ hd => rw [hsl] at hd; cases hd
              | own _ _ _ _ _ s1 g1 g2 g3 g4 =>
                rw [hsl] at g1; simp only [Ob.stride, Option.some.injEq] at g1; subst g1
                rcases g4 with g4 | ⟨b, o, e1, e2, e3⟩
                · -- no room, and none wanted
                  subst g4
                  have hl0 : len = 0 := by omega
                  have hn0 : new = [] := List.eq_nil_of_length_eq_zero (by omega)
                  subst hl0; subst hn0
                  have hny : newys = [] := List.eq_nil_of_length_eq_zero (by simpa using hnl)
                  subst hny
                  obtain ⟨q1, q2⟩ := step_kill hH slot
                  obtain ⟨k1, k2⟩ := step_none (nb := nb) q1 (by simp [updN, hne.symm, hv]) s0
                  have hput : putsF h' [.obj slot .dead, .obj nb (.arr s0 false ((es.drop off).take 0 ++ []))] = putsF (updN h' slot .dead) [.obj nb (.arr s0 false [])] := by
                    funext i; simp [putsF, Wr.putF, updN]
                  simp only
                  rw [hput]
                  refine ⟨_, .slice A 0 0, w, ?_, ?_, k1, q2.trans k2⟩
                  · rw [hrun]
                    cases A with
                    | none => rfl
                    | some a => rfl
                  · exact .own nb 0 0 0 A s0 (by rw [put_get]; rfl) (Nat.le_refl _) (fun _ => rfl) (.inl rfl)
                · subst e2
                  have hor := hH.obs slot
                  rw [hsl] at hor
                  rcases hor with ⟨h1, h2⟩ | ⟨b', o', c, ty', fr, h1, h2, h3, h4, h5, h6, h7⟩
                  · rw [e1] at h1; cases h1
                  · rw [e1] at h1; cases h1
                    obtain ⟨c0, ty0, fr0, hc0, hroom⟩ := e3
                    rw [h2] at hc0; cases hc0
                    have hroom2 : o + off * s0 + len * s0 + new.length * s0 ≤ c.size := by
                      have : (len + new.length) * s0 ≤ cap * s0 := Nat.mul_le_mul_right _ hfit
                      rw [Nat.add_mul] at this hroom
                      omega
                    have hst := run_storeCells E.P newys w b (o + off * s0 + len * s0) 0 c ty' fr h2 h3 hones (by omega)
                    have hlt : b < w.heap.size := (Array.getElem?_eq_some_iff.1 h2).1
                    have hput : putsF h' [.obj slot .dead, .obj nb (.arr s0 false ((es.drop off).take len ++ new))] = fun i => if i = nb then .arr s0 false ((es.drop off).take len ++ new) else if (i == slot) = true then .dead else h' i := by
                      funext i; simp [putsF, Wr.putF]
                    obtain ⟨w1, hw1⟩ : ∃ w1 : World, w1 = { w with heap := w.heap.setIfInBounds b (.cells (setRange c (o + off * s0 + len * s0 + 0) newys) ty' fr) } := ⟨_, rfl⟩
                    have hblock : w1.heap[b]? = some (.cells (setRange c (o + off * s0 + len * s0 + 0) newys) ty' fr) := by subst hw1; simp [hlt]
                    have hstep := step_put hH nb b (o + off * s0) (.arr s0 false ((es.drop off).take len ++ new)) (fun i => i == slot) (w' := w1) (by subst hw1; rfl) (by subst hw1; rfl) (by subst hw1; rfl) (by subst hw1; simp) (by subst hw1; simpa using hlt)
                      (fun x hx _ => by subst hw1; simp only [Array.getElem?_setIfInBounds]; rw [if_neg (fun e => hx e.symm)])
                      (fun c0 t0 fr0 hx => by rw [h2] at hx; cases hx; exact ⟨_, _, hblock, setRange_size _ _ _⟩)
                      (.inr ⟨slot, o, by rw [hsl]; rfl, e1, .inr (by simp)⟩) (.inl hv) (by simpa using hne.symm)
                      (fun hext hR => by
                        refine .inr ⟨b, o + off * s0, _, ty', fr, by simp [updN], hblock, ?_, fun hz => (by cases hz), fun _ => hR, ?_, fun i l hi => ⟨hallc l (List.mem_of_getElem? hi), fun j x' hj => ?_⟩⟩
                        · intro j hj; exact h3 j (by rwa [setRange_size] at hj)
                        · rw [setRange_size, List.length_append, hel, Nat.add_mul]; omega
                        · rw [setRange_get _ _ _ _ (by omega)]
                          have hjl : j < s0 := by rw [← hallc l (List.mem_of_getElem? hi)]; exact (List.getElem?_eq_some_iff.1 hj).1
                          by_cases hil : i < len
                          · rw [List.getElem?_append_left (by rw [hel]; exact hil), List.getElem?_take, if_pos hil, List.getElem?_drop] at hi
                            obtain ⟨z', hz', hr'⟩ := (h7 _ l hi).2 j x' hj
                            refine ⟨z', ?_, hr'.ext hext.r hext.cells⟩
                            have hb2 : i * s0 + s0 ≤ len * s0 := by
                              have := Nat.mul_le_mul_right s0 (show i + 1 ≤ len from hil)
                              rw [Nat.add_mul] at this; omega
                            rw [if_neg (by omega), ← hz']
                            congr 1
                            rw [Nat.add_mul]; omega
                          · rw [List.getElem?_append_right (by rw [hel]; omega), hel] at hi
                            have hf := flat_get hall hi hj
                            have hb2 : len * s0 + (i - len) * s0 = i * s0 := by rw [← Nat.add_mul]; congr 1; omega
                            have hil2 : i - len < new.length := (List.getElem?_eq_some_iff.1 hi).1
                            have hb3 : (i - len) * s0 + s0 ≤ new.length * s0 := by
                              have := Nat.mul_le_mul_right s0 (show i - len + 1 ≤ new.length from hil2)
                              rw [Nat.add_mul] at this; omega
                            have hlt2 : (i - len) * s0 + j < newys.length := by omega
                            rw [if_pos (by omega)]
                            refine ⟨newys[(i - len) * s0 + j], ?_, (hnew.2 _ x' _ hf (List.getElem?_eq_getElem hlt2)).ext hext.r hext.cells⟩
                            rw [← List.getElem?_eq_getElem hlt2]
                            congr 1; omega)
                    simp only
                    rw [hput]
                    refine ⟨_, .slice (some ⟨b, o + off * s0, none⟩) (len + new.length) cap, w1, ?_, ?_, hstep.1, hstep.2⟩
                    · rw [hrun]
                      simp only [add_none]
                      rw [hst, hw1]
                      rfl
                    · refine .own nb 0 _ cap _ s0 (by simp [Ob.stride]) hfit (fun e => by cases e) (.inr ⟨b, o + off * s0, by simp [updN], by simp, _, _, _, hblock, ?_⟩)
                      rw [setRange_size]
                      rw [Nat.add_mul] at hroom
                      simp only [Nat.zero_add]
                      omega
            · obtain ⟨d1, d2⟩ := step_drew hH
              obtain ⟨q1, q2⟩ := step_kill d1 slot
              obtain ⟨κ', k1, k2, k3⟩ := new_arr (G := E.G) (nb := nb) (rest := rest) q1 (by simp [updN, hne.symm, hv]) e0 hallc (hcontent.ext d2.ext.r d2.ext.cells)
              have hput : putsF h' [.obj slot .dead, .obj nb (.arr s0 false ((es.drop off).take len ++ new))] = putsF (updN h' slot .dead) [.obj nb (.arr s0 false ((es.drop off).take len ++ new))] := by
                funext i; simp [putsF, Wr.putF, updN]
              have hblk : (w.drew.alloc (.cells (oldys ++ newys ++ rest).toArray e0)).heap[w.heap.size]? = some (.cells (oldys ++ newys ++ rest).toArray e0 (0, 0)) := by
                show (w.heap.push _)[w.heap.size]? = _; simp
              simp only
              rw [hput]
              refine ⟨κ', _, _, hrun, ?_, k2, (d2.trans q2).trans k3⟩
              refine own_new (s := s0) (by rw [put_get]; rfl) k1 (by omega) hblk ?_
              have h1 := hcontent.1
              rw [flat_len hallc, List.length_append, List.length_append, hel] at h1
              have h2 : cap' * s0 = (len + new.length) * s0 + (cap' - (len + new.length)) * s0 := by rw [← Nat.add_mul]; congr 1; omega
              simp only [List.size_toArray, List.length_append, hrest, hzl]
              omega
          · simp [hb] at hh
        · cases hh
      · cases hh
    · cases hh
  · cases hh
end
end Go.Ev

namespace Go.Ev
open Go
variable {G : Nat → Option (List PC)}

section
variable {κ : Kap} {R : Nat → Prop} {h : Nat → Ob} {w : World}

/-- The cells of a slice of any kind. -/
theorem cells_rep {H : List Ob} {h' : Nat → Ob} {s n : Nat} {c : C} {cl : List C} {rd : List Reg} {y : Value} (hs : 0 < s) (he : cellsOf H s c = some (n, cl, rd)) (hrd : ∀ q ∈ rd, q.getF h' = q.getF (hget H)) (hH : HRep G κ R h' w)
    (hc : CRep κ R h' w c y) : ∃ A cap, ∃ ys : List Value, y = .slice A n cap ∧ n ≤ cap ∧ CReps κ R h' w cl ys ∧ ys.length = n * s ∧
      ∀ (P : Program) (w' : World), w'.heap = w.heap → (Builtin.firstCells s n y).run P w' = .ok ys.toArray w' := by
  unfold cellsOf at he
  split at he
  · cases he
    obtain ⟨A, cap, ys, h1, h2, h3, h4, h5⟩ := elems_rep hs (c := .p (.v (.slice none 0 0))) (es := []) (rd := []) rfl hrd hH hc
    exact ⟨A, cap, ys, h1, h2, ⟨h4.1, fun i c y h => by simp at h⟩, by rw [← h4.1]; simp, h5⟩
  · next s' nn es =>
    split at he
    · next hss =>
      subst hss; cases he
      obtain ⟨A, cap, ys, h1, h2, h3, h4, h5⟩ := elems_rep hs (c := .p (.sl s nn es)) (es := es) (rd := []) (by simp [elemsOf]) hrd hH hc
      exact ⟨A, cap, ys, h1, h2, creps_map.2 h4, by rw [← h4.1, flat_len h3], h5⟩
    · cases he
  · next slot off len =>
    split at he
    · next s' fz es hob =>
      split at he
      · next hcond =>
        cases he
        have hel : ((es.drop off).take n).length = n := by simp; omega
        obtain ⟨A, cap, ys, h1, h2, h3, h4, h5⟩ := elems_rep hs (c := .own slot off n) (es := (es.drop off).take n) (rd := [.obj slot]) (by simp [elemsOf, hob, hcond.1, hcond.2]) hrd hH hc
        rw [hel] at h1 h2 h5
        exact ⟨A, cap, ys, h1, h2, creps_map.2 h4, by rw [← h4.1, flat_len h3, hel], h5⟩
      · cases he
    · next s' cs hob =>
      split at he
      · next hcond =>
        obtain ⟨hss, hlen⟩ := hcond
        subst hss; cases he
        have hsl := regs_ob hob (hrd (.obj slot) (by simp))
        cases hc with
        | ownDead _ _ _ _ hd => rw [hsl] at hd; cases hd
        | own _ _ _ cap A s0 g1 g2 g3 g4 =>
          rw [hsl] at g1; simp only [Ob.stride, Option.some.injEq] at g1; subst g1
          have hor := hH.obs slot
          rw [hsl] at hor
          obtain ⟨b', o', c, t, fr, h1, h2, h3, h4, h5, h6⟩ := hor
          rw [Nat.add_mul] at hlen
          obtain ⟨ys, y1, y2, y3⟩ := choose_vals (Q := CRep κ R h' w) ((cs.drop (off * s)).take (n * s)) (fun k => w.cell? ⟨b', o' + off * s + k, none⟩) (fun k x hk => by
            rw [List.getElem?_take] at hk
            split at hk
            · rw [List.getElem?_drop] at hk
              obtain ⟨y, hy, hr⟩ := h6 _ x hk
              refine ⟨y, ?_, hr⟩
              rw [cell_of_cells h2, ← hy]
              congr 1; omega
            · cases hk)
          have hyl : ys.length = n * s := by rw [y1]; simp; omega
          refine ⟨A, cap, ys, rfl, g2, ⟨y1.symm, y3⟩, hyl, fun P w' hw => ?_⟩
          refine first_slice (b := b') (o := o' + off * s) hw hyl ?_ (fun hA => by have := g3 hA; omega) y2
          rcases g4 with g4 | ⟨b, o, k1, k2, k3⟩
          · exact .inl (by have : n = 0 := by omega
                           simp [this])
          · rw [k1] at h1; cases h1; exact .inr k2
      · cases he
    · cases he
  · cases he

theorem obrep_box' {κ' : Kap} {h' : Nat → Ob} {w' : World} {s nb b : Nat} {cs : List C} {ys rest : List Value} {t : TypeId} (hr : CReps κ R h w cs ys) (he : Ext κ R h w κ' R h' w') (hk : κ' nb = some (b, 0)) (hR : ¬ R b)
    (hb : w'.heap[b]? = some (.cells (ys ++ rest).toArray t (0, 0))) : ObRep κ' R h' w' nb (.box s cs) := by
  refine ⟨b, 0, (ys ++ rest).toArray, t, (0, 0), hk, hb, thawed_zero _, hR, by have := hr.1; simp; omega, fun j x hx => ?_⟩
  have hlt : j < ys.length := by rw [← hr.1]; exact (List.getElem?_eq_some_iff.1 hx).1
  refine ⟨ys[j], ?_, (hr.2 j x _ hx (List.getElem?_eq_getElem hlt)).ext he⟩
  rw [Nat.zero_add]
  simp [List.getElem?_append_left hlt, hlt]

theorem new_box' {h' : Nat → Ob} {nb : Nat} (hH : HRep G κ R h' w) (hv : h' nb = .void) (s : Nat) {cs : List C} {ys rest : List Value} (t : TypeId) (hr : CReps κ R h' w cs ys) :
    ∃ κ', κ' nb = some (w.heap.size, 0) ∧ HRep G κ' R (putsF h' [.obj nb (.box s cs)]) (w.alloc (.cells (ys ++ rest).toArray t)) ∧ Fr κ R h' w κ' R (putsF h' [.obj nb (.box s cs)]) (w.alloc (.cells (ys ++ rest).toArray t)) := by
  refine ⟨_, ?_, step_new hH hv (.box s cs) (ys ++ rest).toArray t rfl fun κ2 h2 he hk hR hb => obrep_box' hr he hk hR hb⟩
  simp [updN]

theorem CReps.append {a b : List C} {x y : List Value} (h1 : CReps κ R h w a x) (h2 : CReps κ R h w b y) : CReps κ R h w (a ++ b) (x ++ y) := by
  refine ⟨by simp [h1.1, h2.1], fun i c z hc hz => ?_⟩
  by_cases hi : i < x.length
  · rw [List.getElem?_append_left (by rw [h1.1]; exact hi)] at hc
    rw [List.getElem?_append_left hi] at hz
    exact h1.2 i c z hc hz
  · rw [List.getElem?_append_right (by rw [h1.1]; omega), h1.1] at hc
    rw [List.getElem?_append_right (by omega)] at hz
    exact h2.2 _ c z hc hz

/-- An object goes; in its place a new one, over a part of its block that has been written behind. -/
theorem step_onto {κ : Kap} {h' : Nat → Ob} (hH : HRep G κ R h' w) {slot nb b o o2 : Nat} {ob : Ob} {c c' : Array Value} {t : TypeId} {fr : Nat × Nat} {w1 : World} (hw1 : w1 = { w with heap := w.heap.setIfInBounds b (.cells c' t fr) })
    (hl : (h' slot).live = true) (hk : κ slot = some (b, o)) (hb : w.heap[b]? = some (.cells c t fr)) (hsz : c'.size = c.size) (hv : h' nb = .void)
    (hob : ∀ κ2 h2, Ext κ R h' w κ2 R h2 w1 → κ2 nb = some (b, o2) → ¬ R b → w1.heap[b]? = some (.cells c' t fr) → ObRep κ2 R h2 w1 nb ob) :
    HRep G (updN κ nb (some (b, o2))) R (putsF h' [.obj slot .dead, .obj nb ob]) w1 ∧ Fr κ R h' w (updN κ nb (some (b, o2))) R (putsF h' [.obj slot .dead, .obj nb ob]) w1 := by
  have hne : slot ≠ nb := by intro e; subst e; rw [hv] at hl; cases hl
  have hlt : b < w.heap.size := (Array.getElem?_eq_some_iff.1 hb).1
  have hblock : w1.heap[b]? = some (.cells c' t fr) := by subst hw1; simp [hlt]
  have hput : putsF h' [.obj slot .dead, .obj nb ob] = fun i => if i = nb then ob else if (i == slot) = true then .dead else h' i := by
    funext i; simp [putsF, Wr.putF]
  rw [hput]
  exact step_put hH nb b o2 ob (fun i => i == slot) (w' := w1) (by subst hw1; rfl) (by subst hw1; rfl) (by subst hw1; rfl) (by subst hw1; simp) (by subst hw1; simpa using hlt)
    (fun x hx _ => by subst hw1; simp only [Array.getElem?_setIfInBounds]; rw [if_neg (fun e => hx e.symm)])
    (fun c0 t0 fr0 hx => by rw [hb] at hx; cases hx; exact ⟨_, _, hblock, hsz⟩)
    (.inr ⟨slot, o, hl, hk, .inr (by simp)⟩) (.inl hv) (by simpa using hne.symm)
    (fun hext hR => hob _ _ hext (by simp [updN]) hR hblock)

theorem appendBox_sim {ρ : Type} {E : Env} {H : List Ob} {nb : Nat} {t : TypeId} {x y : C} {K : Out → Option ρ} {r : ρ} (hh : appendBox E H nb t x y K = some r) :
    ∃ out, K out = some r ∧ nb < out.nb ∧ ∀ (h' : Nat → Ob) (κ : Kap) (R : Nat → Prop) (w : World) (y0 yx : Value) (ts : Array TypeId) (ty : TypeId), (∀ q ∈ out.rd, q.getF h' = q.getF (hget H)) → h' nb = .void → HRep E.G κ R h' w → CRep κ R h' w x y0 → CRep κ R h' w y yx →
      ts[0]? = some t → (∃ d u, ts[1]? = some u ∧ E.P.underlying u = some d ∧ (∀ k, d ≠ .int k)) →
      ∃ κ' y1 w1, (Builtin.append_ ts ty #[y0, yx]).run E.P w = .ok y1 w1 ∧ VRep κ' R (putsF h' out.wr) w1 out.v y1 ∧ HRep E.G κ' R (putsF h' out.wr) w1 ∧ Fr κ R h' w κ' R (putsF h' out.wr) w1 := by
  unfold appendBox at hh
  simp only [Option.bind_eq_some_iff] at hh
  obtain ⟨e0, he0, s0, hs0, by_, hby, z, hz, hh⟩ := hh
  have hu : E.P.underlying t = some (.slice e0) := by
    unfold elemT at he0
    split at he0
    · next hu => cases he0; exact hu
    · cases he0
  split at hh
  · next hcond =>
    obtain ⟨hzl, hspos, hbpos⟩ := hcond
    simp only [Option.bind_eq_some_iff] at hh
    obtain ⟨⟨n, cl, rd⟩, hcl, hh⟩ := hh
    simp only at hh
    split at hh
    · -- nil
      by_cases hb : n * by_ ≤ 140737488355328 ∧ 0 < n
      · simp only [hb.1, hb.2, decide_true, Bool.and_true, cond_true] at hh
        obtain ⟨hb, hn0⟩ := hb
        refine ⟨_, hh, Nat.lt_succ_self _, fun h' κ R w y0 yx ts ty hrd hv hH hc hcy ht0 ht1 => ?_⟩
        have hy0 : y0 = .slice none 0 0 := by cases hc with | p _ _ hp => cases hp; rfl
        subst hy0
        obtain ⟨A2, cap2, newys, hyx, hncap, hnew, hnl, hfirst⟩ := cells_rep hspos hcl (fun q hq => hrd q hq) hH hcy
        subst hyx
        rcases append_run (ty := ty) (oldys := []) (newys := newys) (x := .slice A2 n cap2) (n := n) (w := w) hu hs0 hby hz ht0 ht1 rfl hbpos (len := 0) (cap := 0) (A := none) (by simpa using hb) (fun w' hw => rfl) (fun w' hw => hfirst E.P w' hw) with ⟨hfit, hrun⟩ | ⟨hlt, cap', rest, hcap, hrun, hrest⟩
        · omega
        · obtain ⟨d1, d2⟩ := step_drew hH
          obtain ⟨κ', k1, k2, k3⟩ := new_box' (G := E.G) (nb := nb) (rest := rest) d1 hv s0 e0 (hnew.ext d2.ext)
          have hblk : (w.drew.alloc (.cells (newys ++ rest).toArray e0)).heap[w.heap.size]? = some (.cells (newys ++ rest).toArray e0 (0, 0)) := by
            show (w.heap.push _)[w.heap.size]? = _; simp
          rw [List.nil_append] at hrun
          refine ⟨κ', _, _, hrun, ?_, k2, d2.trans k3⟩
          rw [Nat.zero_add]
          refine own_new (s := s0) (by rw [put_get]; rfl) k1 (by omega) hblk ?_
          have h2 : cap' * s0 = n * s0 + (cap' - (0 + n)) * s0 := by rw [← Nat.add_mul]; congr 1; omega
          simp only [List.size_toArray, List.length_append, hrest, hzl]
          omega
      · exfalso
        have : (decide (n * by_ ≤ 140737488355328) && decide (0 < n)) = false := by simp; omega
        rw [this] at hh; cases hh
    · next slot off len =>
      split at hh
      · next s' cs hob =>
        split at hh
        · next hcond2 =>
          obtain ⟨hss, hol⟩ := hcond2
          subst hss
          by_cases hb : (len + n) * by_ ≤ 140737488355328
          · simp only [hb, decide_true, cond_true] at hh
            refine ⟨_, hh, Nat.lt_succ_self _, fun h' κ R w y0 yx ts ty hrd hv hH hc hcy ht0 ht1 => ?_⟩
            have hsl := regs_ob hob (hrd (.obj slot) (by simp))
            have hne : slot ≠ nb := by intro e; subst e; rw [hsl] at hv; cases hv
            obtain ⟨A2, cap2, newys, hyx, hncap, hnew, hnl, hfirst⟩ := cells_rep hspos hcl (fun q hq => hrd q (by simp [hq])) hH hcy
            subst hyx
            have hcells : cellsOf H s0 (.own slot off len) = some (len, (cs.drop (off * s0)).take (len * s0), [.obj slot]) := by simp [cellsOf, hob, hol]
            obtain ⟨A, cap, oldys, hy0, hlc, holdreps, hol2, holdfirst⟩ := cells_rep hspos hcells (fun q hq => hrd q (by simp at hq; simp [hq])) hH hc
            subst hy0
            have hcontent := holdreps.append hnew
            rcases append_run (ty := ty) (oldys := oldys) (newys := newys) (x := .slice A2 n cap2) (n := n) (w := w) hu hs0 hby hz ht0 ht1 rfl hbpos hb (fun w' hw => holdfirst E.P w' hw) (fun w' hw => hfirst E.P w' hw) with ⟨hfit, hrun⟩ | ⟨hlt, cap', rest, hcap, hrun, hrest⟩
            · have hones := hnew.ones
              cases hc with
              | ownDead _ _ _ _ hd => rw [hsl] at hd; cases hd
              | own _ _ _ _ _ s1 g1 g2 g3 g4 =>
                rw [hsl] at g1; simp only [Ob.stride, Option.some.injEq] at g1; subst g1
                have hor := hH.obs slot
                rw [hsl] at hor
                obtain ⟨b', o', c, ty', fr, h1, h2, h3, h4, h5, h6⟩ := hor
                rw [Nat.add_mul] at hol
                rcases g4 with g4 | ⟨b, o, e1, e2, e3⟩
                · subst g4
                  have hl0 : len = 0 := by omega
                  have hn0 : n = 0 := by omega
                  subst hl0; subst hn0
                  have hny : newys = [] := List.eq_nil_of_length_eq_zero (by simpa using hnl)
                  subst hny
                  have hcl0 : cl = [] := List.eq_nil_of_length_eq_zero (by rw [hnew.1]; rfl)
                  subst hcl0
                  have hlt : b' < w.heap.size := (Array.getElem?_eq_some_iff.1 h2).1
                  obtain ⟨w1, hw1⟩ : ∃ w1 : World, w1 = { w with heap := w.heap.setIfInBounds b' (.cells c ty' fr) } := ⟨_, rfl⟩
                  have hw1' : w1 = w := by
                    rw [hw1]
                    have : w.heap.setIfInBounds b' (.cells c ty' fr) = w.heap := by
                      apply Array.ext_getElem?
                      intro j
                      rw [Array.getElem?_setIfInBounds]
                      split
                      · next e => subst e; first | exact h2.symm | (rw [if_pos hlt]; exact h2.symm)
                      · rfl
                    rw [this]
                  obtain ⟨q1, q2⟩ := step_onto (G := E.G) hH (nb := nb) (o2 := o') (ob := .box s0 ((cs.drop (off * s0)).take (0 * s0) ++ [])) hw1 (by rw [hsl]; rfl) h1 h2 rfl hv (fun κ2 h2' he hk hR hbl => ⟨b', o', c, ty', fr, hk, hbl, h3, hR, by simp; omega, fun j x hx => by simp at hx⟩)
                  rw [hw1'] at q1 q2
                  refine ⟨_, .slice A 0 0, w, ?_, ?_, q1, q2⟩
                  · rw [hrun]
                    cases A <;> rfl
                  · refine .own nb 0 0 0 A s0 ?_ (Nat.le_refl _) (fun _ => rfl) (.inl rfl)
                    simp [putsF, Wr.putF, Ob.stride]
                · rw [e1] at h1; cases h1
                  subst e2
                  obtain ⟨c0, ty0, fr0, hc0, hroom⟩ := e3
                  rw [h2] at hc0; cases hc0
                  have hroom2 : o' + off * s0 + len * s0 + n * s0 ≤ c.size := by
                    have : (len + n) * s0 ≤ cap * s0 := Nat.mul_le_mul_right _ hfit
                    rw [Nat.add_mul] at this hroom
                    omega
                  have hst := run_storeCells E.P newys w b' (o' + off * s0 + len * s0) 0 c ty' fr h2 h3 hones (by omega)
                  have hlt : b' < w.heap.size := (Array.getElem?_eq_some_iff.1 h2).1
                  obtain ⟨w1, hw1⟩ : ∃ w1 : World, w1 = { w with heap := w.heap.setIfInBounds b' (.cells (setRange c (o' + off * s0 + len * s0 + 0) newys) ty' fr) } := ⟨_, rfl⟩
                  have hblock : w1.heap[b']? = some (.cells (setRange c (o' + off * s0 + len * s0 + 0) newys) ty' fr) := by subst hw1; simp [hlt]
                  have hll : ((cs.drop (off * s0)).take (len * s0)).length = len * s0 := by simp; omega
                  obtain ⟨q1, q2⟩ := step_onto (G := E.G) hH (nb := nb) (o2 := o' + off * s0) (ob := .box s0 ((cs.drop (off * s0)).take (len * s0) ++ cl)) hw1 (by rw [hsl]; rfl) e1 h2 (setRange_size _ _ _) hv (fun κ2 h2' he hk hR hbl => by
                    refine ⟨b', o' + off * s0, _, ty', fr, hk, hbl, ?_, hR, ?_, fun j x hx => ?_⟩
                    · intro j hj; exact h3 j (by rwa [setRange_size] at hj)
                    · rw [setRange_size, List.length_append, hll, hnew.1, hnl]; omega
                    · rw [setRange_get _ _ _ _ (by omega)]
                      by_cases hj : j < len * s0
                      · rw [List.getElem?_append_left (by rw [hll]; exact hj), List.getElem?_take, if_pos hj, List.getElem?_drop] at hx
                        obtain ⟨z', hz', hr'⟩ := h6 _ x hx
                        refine ⟨z', ?_, hr'.ext he⟩
                        rw [if_neg (by omega), ← hz']
                        congr 1; omega
                      · rw [List.getElem?_append_right (by rw [hll]; omega), hll] at hx
                        have hlt2 : j - len * s0 < newys.length := by rw [← hnew.1]; exact (List.getElem?_eq_some_iff.1 hx).1
                        rw [if_pos (by omega)]
                        refine ⟨newys[j - len * s0], ?_, (hnew.2 _ x _ hx (List.getElem?_eq_getElem hlt2)).ext he⟩
                        rw [← List.getElem?_eq_getElem hlt2]
                        congr 1; omega)
                  refine ⟨_, .slice (some ⟨b', o' + off * s0, none⟩) (len + n) cap, w1, ?_, ?_, q1, q2⟩
                  · rw [hrun]
                    simp only [add_none]
                    rw [hst, hw1]
                    rfl
                  · refine .own nb 0 _ cap _ s0 (by simp [putsF, Wr.putF, Ob.stride]) hfit (fun e => by cases e) (.inr ⟨b', o' + off * s0, by simp [updN], by simp, _, _, _, hblock, ?_⟩)
                    rw [setRange_size]
                    rw [Nat.add_mul] at hroom
                    simp only [Nat.zero_add]
                    omega
            · obtain ⟨d1, d2⟩ := step_drew hH
              obtain ⟨q1, q2⟩ := step_kill d1 slot
              obtain ⟨κ', k1, k2, k3⟩ := new_box' (G := E.G) (nb := nb) (rest := rest) q1 (by simp [updN, hne.symm, hv]) s0 e0 ((hcontent.ext d2.ext).ext q2.ext)
              have hput : putsF h' [.obj slot .dead, .obj nb (.box s0 ((cs.drop (off * s0)).take (len * s0) ++ cl))] = putsF (updN h' slot .dead) [.obj nb (.box s0 ((cs.drop (off * s0)).take (len * s0) ++ cl))] := by
                funext i; simp [putsF, Wr.putF, updN]
              have hblk : (w.drew.alloc (.cells (oldys ++ newys ++ rest).toArray e0)).heap[w.heap.size]? = some (.cells (oldys ++ newys ++ rest).toArray e0 (0, 0)) := by
                show (w.heap.push _)[w.heap.size]? = _; simp
              simp only
              rw [hput]
              refine ⟨κ', _, _, hrun, ?_, k2, (d2.trans q2).trans k3⟩
              refine own_new (s := s0) (by rw [put_get]; rfl) k1 (by omega) hblk ?_
              have h2 : cap' * s0 = (len + n) * s0 + (cap' - (len + n)) * s0 := by rw [← Nat.add_mul]; congr 1; omega
              rw [Nat.add_mul] at h2
              simp only [List.size_toArray, List.length_append, hrest, hzl]
              omega
          · simp [hb] at hh
        · cases hh
      · cases hh
    · cases hh
  · cases hh
end
end Go.Ev

namespace Go.Ev
open Go
variable {G : Nat → Option (List PC)}

section
variable {κ : Kap} {R : Nat → Prop} {h : Nat → Ob} {w : World}

theorem lenOf_rep {H : List Ob} {h' : Nat → Ob} {c : C} {n : Nat} {rd : List Reg} {y : Value} (hl : lenOf H c = some (n, rd)) (hrd : ∀ q ∈ rd, q.getF h' = q.getF (hget H)) (hc : CRep κ R h' w c y) : ∃ A cap, y = .slice A n cap := by
  unfold lenOf at hl
  split at hl
  · cases hl; cases hc with | p _ _ hp => cases hp; exact ⟨_, _, rfl⟩
  · cases hl
    cases hc with
    | p _ _ hp => cases hp with | sl _ _ _ A len cap f b o h1 => subst h1; exact ⟨_, _, rfl⟩
  · split at hl
    · next hob =>
      cases hl
      have := regs_ob hob (hrd _ (by simp))
      cases hc with
      | ownDead _ _ _ _ hd => rw [this] at hd; cases hd
      | own => exact ⟨_, _, rfl⟩
    · next hob =>
      cases hl
      have := regs_ob hob (hrd _ (by simp))
      cases hc with
      | ownDead _ _ _ _ hd => rw [this] at hd; cases hd
      | own => exact ⟨_, _, rfl⟩
    · cases hl
  · cases hl

theorem run_len_slice {P : Program} {ts : Array TypeId} {ty t e : TypeId} (ht : ts[0]? = some t) (hu : P.underlying t = some (.slice e)) (A : Option Addr) (n cap : Nat) : (Builtin.len_ ts ty #[.slice A n cap]).run P w = .ok (.int .i64 n) w := by
  unfold Builtin.len_
  have h0 : (#[Value.slice A n cap] : Array Value)[0]? = some (.slice A n cap) := rfl
  rw [ht, h0]
  simp only [Sem.run_bind, run_underlying' hu, Result.andThen_ok, Sem.run_pure]
  rfl
theorem run_len_string {P : Program} {ts : Array TypeId} {ty t : TypeId} (ht : ts[0]? = some t) (hu : P.underlying t = some .string) (s : ByteArray) : (Builtin.len_ ts ty #[.string s]).run P w = .ok (.int .i64 s.size) w := by
  unfold Builtin.len_
  have h0 : (#[Value.string s] : Array Value)[0]? = some (.string s) := rfl
  rw [ht, h0]
  simp only [Sem.run_bind, run_underlying' hu, Result.andThen_ok, Sem.run_pure]
  rfl
theorem run_len_array {P : Program} {ts : Array TypeId} {ty t e : TypeId} {n : Nat} (ht : ts[0]? = some t) (hu : P.underlying t = some (.array n e)) (v : Value) : (Builtin.len_ ts ty #[v]).run P w = .ok (.int .i64 n) w := by
  unfold Builtin.len_
  have h0 : (#[v] : Array Value)[0]? = some v := rfl
  rw [ht, h0]
  simp only [Sem.run_bind, run_underlying' hu, Result.andThen_ok]
  cases v <;> rfl

theorem run_max2 (P : Program) (k : IntKind) (a b : Int) : (Builtin.max2 (.int k a) (.int k b)).run P w = .ok (.int k (if b > a then b else a)) w := rfl
theorem run_min2 (P : Program) (k : IntKind) (a b : Int) : (Builtin.min2 (.int k a) (.int k b)).run P w = .ok (.int k (if b < a then b else a)) w := rfl

theorem run_maxs (P : Program) (k : IntKind) : ∀ (l : List Int) (a : Int), ((l.map fun n => Value.int k n).foldlM Builtin.max2 (.int k a)).run P w = .ok (.int k (l.foldl (fun x y => if y > x then y else x) a)) w
  | [], a => rfl
  | b :: l, a => by
    rw [List.map_cons, List.foldlM_cons, Sem.run_bind, run_max2, Result.andThen_ok, run_maxs P k l, List.foldl_cons]
theorem run_mins (P : Program) (k : IntKind) : ∀ (l : List Int) (a : Int), ((l.map fun n => Value.int k n).foldlM Builtin.min2 (.int k a)).run P w = .ok (.int k (l.foldl (fun x y => if y < x then y else x) a)) w
  | [], a => rfl
  | b :: l, a => by
    rw [List.map_cons, List.foldlM_cons, Sem.run_bind, run_min2, Result.andThen_ok, run_mins P k l, List.foldl_cons]

/-- The values of operands. -/
theorem opnds_rep {E : Env} {tm : List AV} {t' : Nat → AV} {h' : Nat → Ob} {a : Act} (hrel : Rel E.G κ R tm.length t' h' a w) : ∀ (xs : List Operand) (vs : List AV), xs.mapM (operand tm) = some vs → (∀ x ∈ xs, ∀ t, x = .tmp t → t' t = tget tm t) →
    vs.length = xs.length ∧ ∀ (i : Nat) (v : AV) (y : Value), vs[i]? = some v → (xs.map a.eval)[i]? = some y → VRep κ R h' w v y
  | [], vs, hm, _ => by simp at hm; subst hm; exact ⟨rfl, fun i v y h1 => by simp at h1⟩
  | x :: xs, vs, hm, hal => by
    simp only [List.mapM_cons, bind, Option.bind_eq_some_iff, pure, Option.some.injEq] at hm
    obtain ⟨v, hv, vs', hvs', rfl⟩ := hm
    obtain ⟨h1, h2⟩ := opnds_rep hrel xs vs' hvs' (fun y hy => hal y (by simp [hy]))
    refine ⟨by simp [h1], fun i v' y hi hy => ?_⟩
    cases i with
    | zero => simp only [List.map_cons, List.getElem?_cons_zero, Option.some.injEq] at hi hy; subst hi; subst hy; exact operand_rep hrel hv (hal x (by simp))
    | succ i => exact h2 i v' y (by simpa using hi) (by simpa using hy)

theorem intsOf_vals {k : IntKind} {h' : Nat → Ob} : ∀ (vs : List AV) (l : List Int) (ys : List Value), intsOf k vs = some l → vs.length = ys.length → (∀ (i : Nat) (v : AV) (y : Value), vs[i]? = some v → ys[i]? = some y → VRep κ R h' w v y) → ys = l.map fun n => .int k n
  | [], l, ys, hi, hl, _ => by cases hi; exact List.eq_nil_of_length_eq_zero (by simpa using hl.symm)
  | v :: vs, l, ys, hi, hl, hr => by
    unfold intsOf at hi
    split at hi
    · next heq => cases heq
    · next k' n r heq =>
      cases heq
      split at hi
      · next hk =>
        subst hk
        simp only [Option.map_eq_some_iff] at hi
        obtain ⟨l', hl', rfl⟩ := hi
        match ys, hl with
        | y :: ys, hl =>
          have h0 := val_rep (x := .int k n) rfl (hr 0 _ y rfl rfl)
          subst h0
          rw [List.map_cons, intsOf_vals vs l' ys hl' (by simpa using hl) (fun i v y h1 h2 => hr (i + 1) v y (by simpa using h1) (by simpa using h2))]
      · cases hi
    · cases hi
end

section ops
variable {ρ : Type} {E : Env} {tm : List AV} {H : List Ob} {nb : Nat} {K : Out → Option ρ} {r : ρ}
variable {dst : Option Tmp} {ty : TypeId} {pos : String} {after : Array Edge} {guard : Option (Nat × Bool)}

theorem run_builtin {P : Program} {w : World} {a : Act} {b : Builtin} {args : Array Operand} {ts : Array TypeId} :
    (execOp a.eval ⟨dst, .call { callee := .builtin b, args, argTypes := ts }, ty, pos, after, guard⟩).run P w = (builtin b ts ty (args.map fun | .const _ => true | _ => false) (args.map a.eval)).run P w := rfl

theorem splice_all {l x : List (List PC)} {off s : Nat} (hl : ∀ e ∈ l, e.length = s) (hx : ∀ e ∈ x, e.length = s) : ∀ e ∈ splice l off x, e.length = s := by
  intro e he
  simp only [splice, List.mem_append] at he
  rcases he with he | he | he
  · exact hl e (List.mem_of_mem_take he)
  · exact hx e he
  · exact hl e (List.mem_of_mem_drop he)

theorem store_nil {w : World} (P : Program) (A : Option Addr) : (((match A with | some a => storeCells a ([] : List Value) | none => pure ()) : Sem Unit).run P w) = .ok () w := by cases A <;> rfl

/-- A part of an array of the call's own is written: whole elements. -/
theorem write_elems {κ : Kap} {R : Nat → Prop} {h' : Nat → Ob} {w : World} {P : Program} {slot off len s n : Nat} {es new : List (List PC)} {newys : List Value} {A : Option Addr} {cap : Nat} (hH : HRep G κ R h' w) (hob : h' slot = .arr s false es) (hol : off + len ≤ es.length) (hn : n ≤ len) (hnn : new.length = n)
    (hc : CRep κ R h' w (.own slot off len) (.slice A len cap)) (hall : ∀ e ∈ new, e.length = s) (hnew : PReps R w new.flatten newys) :
    ∃ w', (((match A with | some a => storeCells a newys | none => pure ()) : Sem Unit).run P w) = .ok () w' ∧ HRep G κ R (putsF h' [.obj slot (.arr s false (splice es off new))]) w' ∧ Fr κ R h' w κ R (putsF h' [.obj slot (.arr s false (splice es off new))]) w' := by
  have hnl : newys.length = n * s := by rw [← hnew.1, flat_len hall, hnn]
  have hones : ∀ v ∈ newys, v.oneCell' = true := by
    intro v hv'
    obtain ⟨k, hk'⟩ := List.mem_iff_getElem?.1 hv'
    have hlt : k < new.flatten.length := by rw [hnew.1]; exact (List.getElem?_eq_some_iff.1 hk').1
    exact (hnew.2 k _ v (List.getElem?_eq_getElem hlt) hk').oneCell
  by_cases hn0 : n * s = 0
  · -- nothing is written
    have hny : newys = [] := List.eq_nil_of_length_eq_zero (by omega)
    subst hny
    have hrun := store_nil (w := w) P A
    have hsp : ∃ es', es' = splice es off new ∧ ∀ i e, es'[i]? = some e → (es[i]? = some e ∨ e = []) ∧ (e = [] → s = 0 ∨ es[i]? = some e) := ⟨_, rfl, fun i e he => by
      rw [splice_get _ _ _ _ (by omega)] at he
      split at he
      · next hin =>
        have hel := hall e (List.mem_of_getElem? he)
        have : s = 0 := by
          rcases Nat.mul_eq_zero.1 hn0 with h0 | h0
          · omega
          · exact h0
        exact ⟨.inr (List.eq_nil_of_length_eq_zero (by omega)), fun _ => .inl this⟩
      · exact ⟨.inl he, fun _ => .inr he⟩⟩
    refine ⟨w, hrun, ?_⟩
    -- the object is as it was, cell by cell
    have hor := hH.obs slot
    rw [hob] at hor
    have hlen : (splice es off new).length = es.length := splice_length _ _ _ (by omega)
    rcases hor with ⟨h1, h2⟩ | ⟨b, o, c, t, fr, h1, h2, h3, h4, h5, h6, h7⟩
    · have hes : splice es off new = es := by
        subst h2
        exact List.eq_nil_of_length_eq_zero (by rw [hlen]; rfl)
      rw [hes]
      have : putsF h' [.obj slot (.arr s false es)] = h' := by funext i; simp only [putsF, List.foldl_cons, List.foldl_nil, Wr.putF]; split <;> simp_all
      rw [this]
      exact ⟨hH, Fr.refl ..⟩
    · have hw : w = { w with heap := w.heap.setIfInBounds b (.cells c t fr) } := by
        have hlt : b < w.heap.size := (Array.getElem?_eq_some_iff.1 h2).1
        have : w.heap.setIfInBounds b (.cells c t fr) = w.heap := by
          apply Array.ext_getElem?
          intro j
          rw [Array.getElem?_setIfInBounds]
          split
          · next e => subst e; first | exact h2.symm | (rw [if_pos hlt]; exact h2.symm)
          · rfl
        rw [this]
      refine step_write hH hw (by rw [hob]; rfl) h1 h2 rfl (by rw [hob]; rfl) (fun h2' he hR hb => .inr ⟨b, o, c, t, fr, h1, hb, h3, fun e => (by cases e), fun _ => hR, by rw [hlen]; exact h6, fun i e hi => ?_⟩)
      rw [splice_get _ _ _ _ (by omega)] at hi
      split at hi
      · have hel := hall e (List.mem_of_getElem? hi)
        refine ⟨hel, fun j x hj => ?_⟩
        have : s = 0 := by
          rcases Nat.mul_eq_zero.1 hn0 with h0 | h0
          · omega
          · exact h0
        have hlt := (List.getElem?_eq_some_iff.1 hj).1
        omega
      · obtain ⟨q1, q2⟩ := h7 i e hi
        exact ⟨q1, fun j x hj => by obtain ⟨z, hz, hr⟩ := q2 j x hj; exact ⟨z, hz, hr.ext he.r he.cells⟩⟩
  · cases hc with
    | ownDead _ _ _ _ hd => rw [hob] at hd; cases hd
    | own _ _ _ _ _ s1 g1 g2 g3 g4 =>
      rw [hob] at g1; simp only [Ob.stride, Option.some.injEq] at g1; subst g1
      have hnpos : 0 < n := Nat.pos_of_ne_zero fun e => hn0 (by rw [e]; simp)
      rcases g4 with g4 | ⟨b, o, e1, e2, e3⟩
      · omega
      · subst e2
        have hor := hH.obs slot
        rw [hob] at hor
        rcases hor with ⟨h1, h2⟩ | ⟨b', o', c, t, fr, h1, h2, h3, h4, h5, h6, h7⟩
        · rw [e1] at h1; cases h1
        · rw [e1] at h1; cases h1
          have hb2 : off * s + n * s ≤ es.length * s := by rw [← Nat.add_mul]; exact Nat.mul_le_mul_right _ (by omega)
          have hst := run_storeCells P newys w b (o + off * s) 0 c t fr h2 h3 hones (by omega)
          refine ⟨_, hst, ?_⟩
          refine step_write hH rfl (by rw [hob]; rfl) e1 h2 (setRange_size _ _ _) (by rw [hob]; rfl) (fun h2' he hR hb => .inr ⟨b, o, _, t, fr, e1, hb, ?_, fun e => (by cases e), fun _ => hR, ?_, fun i e hi => ?_⟩)
          · intro j hj; exact h3 j (by rwa [setRange_size] at hj)
          · rw [setRange_size, splice_length _ _ _ (by omega)]; exact h6
          · rw [splice_get _ _ _ _ (by omega)] at hi
            split at hi
            · next hin =>
              have hel := hall e (List.mem_of_getElem? hi)
              refine ⟨hel, fun j x hj => ?_⟩
              have hjl : j < s := by rw [← hel]; exact (List.getElem?_eq_some_iff.1 hj).1
              have hf := flat_get hall hi hj
              have hb3 : (i - off) * s + s ≤ n * s := by
                have := Nat.mul_le_mul_right s (show i - off + 1 ≤ n by omega)
                rw [Nat.add_mul] at this; omega
              have hb4 : off * s + (i - off) * s = i * s := by rw [← Nat.add_mul]; congr 1; omega
              have hlt2 : (i - off) * s + j < newys.length := by omega
              refine ⟨newys[(i - off) * s + j], ?_, (hnew.2 _ x _ hf (List.getElem?_eq_getElem hlt2)).ext he.r he.cells⟩
              rw [setRange_get _ _ _ _ (by omega), if_pos (by omega), ← List.getElem?_eq_getElem hlt2]
              congr 1; omega
            · next hin =>
              obtain ⟨q1, q2⟩ := h7 i e hi
              refine ⟨q1, fun j x hj => ?_⟩
              obtain ⟨z, hz, hr⟩ := q2 j x hj
              have hjl : j < s := by rw [← q1]; exact (List.getElem?_eq_some_iff.1 hj).1
              refine ⟨z, ?_, hr.ext he.r he.cells⟩
              rw [setRange_get _ _ _ _ (by omega), if_neg]
              · exact hz
              · intro hin2
                rcases Nat.lt_or_ge i off with hlo | hhi
                · have := Nat.mul_le_mul_right s (show i + 1 ≤ off from hlo)
                  rw [Nat.add_mul] at this; omega
                · have hge : off + n ≤ i := by omega
                  have := Nat.mul_le_mul_right s hge
                  rw [Nat.add_mul] at this; omega

theorem vals_two {κ : Kap} {R : Nat → Prop} {h' : Nat → Ob} {w : World} {a : Act} {args : Array Operand} {x y : AV} (h1 : [x, y].length = args.toList.length) (h2 : ∀ (i : Nat) (v : AV) (z : Value), [x, y][i]? = some v → (args.toList.map a.eval)[i]? = some z → VRep κ R h' w v z) :
    ∃ p q, args.map a.eval = #[p, q] ∧ VRep κ R h' w x p ∧ VRep κ R h' w y q := by
  obtain ⟨l⟩ := args
  match l, h1 with
  | [p, q], _ => exact ⟨a.eval p, a.eval q, by simp, h2 0 x _ rfl rfl, h2 1 y _ rfl rfl⟩
theorem vals_one {κ : Kap} {R : Nat → Prop} {h' : Nat → Ob} {w : World} {a : Act} {args : Array Operand} {x : AV} (h1 : [x].length = args.toList.length) (h2 : ∀ (i : Nat) (v : AV) (z : Value), [x][i]? = some v → (args.toList.map a.eval)[i]? = some z → VRep κ R h' w v z) :
    ∃ p, args.map a.eval = #[p] ∧ VRep κ R h' w x p := by
  obtain ⟨l⟩ := args
  match l, h1 with
  | [p], _ => exact ⟨a.eval p, by simp, h2 0 x _ rfl rfl⟩

theorem sim_builtin {b : Builtin} {args : Array Operand} {ts : Array TypeId} (h : aop E tm H nb ⟨dst, .call { callee := .builtin b, args, argTypes := ts }, ty, pos, after, guard⟩ K = some r) :
    Does E tm H nb ⟨dst, .call { callee := .builtin b, args, argTypes := ts }, ty, pos, after, guard⟩ K r := by
  simp only [aop, Option.bind_eq_some_iff] at h
  obtain ⟨vs, hvs, h⟩ := h
  have hvals : ∀ {out : Out} {t' : Nat → AV} {h' : Nat → Ob} {κ : Kap} {R : Nat → Prop} {a : Act} {w : World}, Alike ⟨dst, .call { callee := .builtin b, args, argTypes := ts }, ty, pos, after, guard⟩ tm.length (tget tm) t' (hget H) h' nb out → Rel E.G κ R tm.length t' h' a w →
      vs.length = args.toList.length ∧ ∀ (i : Nat) (v : AV) (y : Value), vs[i]? = some v → (args.toList.map a.eval)[i]? = some y → VRep κ R h' w v y := fun hal hrel =>
    opnds_rep hrel args.toList vs hvs (fun x hx => hal.opnd (by simp only [Op.operands, Call.operands, Array.empty_append]; simpa using hx))
  generalize hts : ts.toList = tl at h
  unfold builtinV at h
  split at h
  · -- len of a string
    next t s =>
    split at h
    · next hu =>
      refine ⟨_, h, .of_value fun t' h' κ R a w hal hrel => ?_⟩
      obtain ⟨h1, h2⟩ := hvals hal hrel
      obtain ⟨p, hp, hr⟩ := vals_one h1 h2
      have := val_rep (x := .string s) rfl hr
      subst this
      have ht0 : ts[0]? = some t := by rw [← Array.getElem?_toList, hts]; rfl
      refine ⟨_, ?_, rep_ints _ _⟩
      rw [run_builtin, hp]
      simp only [builtin, Sem.run_bind, run_len_string ht0 hu, Result.andThen_ok, Sem.run_pure]
    · cases h
  · next t x _ =>
    split at h
    · next e c hu _ =>
      simp only [Option.bind_eq_some_iff] at h
      obtain ⟨ln, hln, h⟩ := h
      refine ⟨_, h, .of_value fun t' h' κ R a w hal hrel => ?_⟩
      obtain ⟨h1, h2⟩ := hvals hal hrel
      obtain ⟨p, hp, hr⟩ := vals_one h1 h2
      obtain ⟨A, cap, rfl⟩ := lenOf_rep (n := ln.1) (rd := ln.2) hln hal.regs hr
      have ht0 : ts[0]? = some t := by rw [← Array.getElem?_toList, hts]; rfl
      refine ⟨_, ?_, rep_ints _ _⟩
      rw [run_builtin, hp]
      simp only [builtin, Sem.run_bind, run_len_slice ht0 hu, Result.andThen_ok, Sem.run_pure]
    · next n e hu _ =>
      refine ⟨_, h, .of_value fun t' h' κ R a w hal hrel => ?_⟩
      obtain ⟨h1, h2⟩ := hvals hal hrel
      obtain ⟨p, hp, hr⟩ := vals_one h1 h2
      have ht0 : ts[0]? = some t := by rw [← Array.getElem?_toList, hts]; rfl
      refine ⟨_, ?_, rep_ints _ _⟩
      rw [run_builtin, hp]
      simp only [builtin, Sem.run_bind, run_len_array ht0 hu, Result.andThen_ok, Sem.run_pure]
    · cases h
  · next t t2 rest x y =>
    -- append
    have ht0 : ts[0]? = some t := by rw [← Array.getElem?_toList, hts]; rfl
    have ht1 : ts[1]? = some t2 := by rw [← Array.getElem?_toList, hts]; rfl
    split at h
    · next e2 hu2 =>
      simp only [Option.bind_eq_some_iff] at h
      obtain ⟨e, he, h⟩ := h
      split at h
      · obtain ⟨out, hK, hnb, hsim⟩ := appendBox_sim h
        refine ⟨out, hK, fun t' h' κ R a w hal hrel => ?_⟩
        obtain ⟨h1, h2⟩ := hvals hal hrel
        obtain ⟨p, q, hpq, hrx, hry⟩ := vals_two h1 h2
        obtain ⟨κ', y1, w1, e1, e2', e3, e4⟩ := hsim h' κ R w p q ts ty hal.regs (hal.free nb (Nat.le_refl _) hnb) hrel.heap hrx hry ht0 ⟨_, _, ht1, hu2, fun k e => by cases e⟩
        refine ⟨κ', R, y1, w1, .inl ?_, e2', e3, e4⟩
        rw [run_builtin, hpq]
        simp only [builtin, Sem.run_bind, e1, Result.andThen_ok, Sem.run_pure]
      · simp only [Option.bind_eq_some_iff] at h
        obtain ⟨s, hs, er, her, h⟩ := h
        obtain ⟨out, hK, hrdo, hnb, hsim⟩ := appendTo_sim h
        refine ⟨out, hK, fun t' h' κ R a w hal hrel => ?_⟩
        obtain ⟨h1, h2⟩ := hvals hal hrel
        obtain ⟨p, q, hpq, hrx, hry⟩ := vals_two h1 h2
        have hs0 : 0 < s := by
          unfold appendTo at h
          simp only [Option.bind_eq_some_iff] at h
          obtain ⟨e', he', s', hs', _, _, _, _, h⟩ := h
          rw [he] at he'; cases he'
          rw [hs] at hs'; cases hs'
          split at h
          · next hc => exact hc.2.1
          · cases h
        obtain ⟨A, cap, ys, hq, hlc, hall, hreps, hfirst⟩ := elems_rep hs0 (es := er.1) (rd := er.2) her (fun z hz => hal.regs z (hrdo z hz)) hrel.heap hry
        subst hq
        obtain ⟨κ', y1, w1, e1, e2', e3, e4⟩ := hsim e s he hs h' κ R w p _ ts ty ys hal.regs (hal.free nb (Nat.le_refl _) hnb) hrel.heap hrx hall hreps ht0 ⟨_, _, ht1, hu2, fun k e => by cases e⟩ rfl (fun w' hw => hfirst E.P w' hw)
        refine ⟨κ', R, y1, w1, .inl ?_, e2', e3, e4⟩
        rw [run_builtin, hpq]
        simp only [builtin, Sem.run_bind, e1, Result.andThen_ok, Sem.run_pure]
    · next hu2 =>
      simp only [Option.bind_eq_some_iff] at h
      obtain ⟨e, he, s, hs, h⟩ := h
      split at h
      · next hs1 =>
        subst hs1
        split at h
        · next b =>
          obtain ⟨out, hK, hrdo, hnb, hsim⟩ := appendTo_sim h
          refine ⟨out, hK, fun t' h' κ R a w hal hrel => ?_⟩
          obtain ⟨h1, h2⟩ := hvals hal hrel
          obtain ⟨p, q, hpq, hrx, hry⟩ := vals_two h1 h2
          have := val_rep (x := .string b) rfl hry
          subst this
          have hlen : (bytesPC b.data.toList).length = b.size := by unfold bytesPC; rw [List.length_map, Array.length_toList]; rfl
          have hflat : ∀ l : List UInt8, (bytesPC l).flatten = l.map fun x => PC.v (.int .u8 x.toNat) := by
            intro l; induction l with
            | nil => rfl
            | cons x l ih => simp only [bytesPC, List.map_cons, List.flatten_cons] at ih ⊢; rw [ih]; rfl
          obtain ⟨κ', y1, w1, e1, e2', e3, e4⟩ := hsim e 1 he hs h' κ R w p (.string b) ts ty (b.data.toList.map fun x => .int .u8 x.toNat) hal.regs (hal.free nb (Nat.le_refl _) hnb) hrel.heap hrx
            (fun l hl => by simp only [bytesPC, List.mem_map] at hl; obtain ⟨x, _, rfl⟩ := hl; rfl)
            (by
              rw [hflat]
              refine ⟨by simp, fun i c y h1 h2 => ?_⟩
              rw [List.getElem?_map] at h1 h2
              cases hb : b.data.toList[i]? with
              | none => rw [hb] at h1; cases h1
              | some u => rw [hb] at h1 h2; cases h1; cases h2; exact .v _ rfl) ht0 ⟨_, _, ht1, hu2, fun k e => by cases e⟩ (by rw [hlen]; rfl)
            (fun w' hw => by
              rw [hlen]
              show Result.ok _ _ = _
              congr 1
              apply Array.ext'
              rw [show b.extract 0 b.size = b from ByteArray.extract_zero_size]
              simp)
          refine ⟨κ', R, y1, w1, .inl ?_, e2', e3, e4⟩
          rw [run_builtin, hpq]
          simp only [builtin, Sem.run_bind, e1, Result.andThen_ok, Sem.run_pure]
        · cases h
      · cases h
    · cases h
  · -- copy
    next t t2 slot off len y =>
    simp only [Option.bind_eq_some_iff] at h
    obtain ⟨e, he, s, hs, er, her, h⟩ := h
    have hu : E.P.underlying t = some (.slice e) := by
      unfold elemT at he
      split at he
      · next hu => cases he; exact hu
      · cases he
    split at h
    · next s' es hob =>
      split at h
      · next hcond =>
        obtain ⟨hss, hol, hs0⟩ := hcond
        subst hss
        refine ⟨_, h, fun t' h' κ R a w hal hrel => ?_⟩
        obtain ⟨h1, h2⟩ := hvals hal hrel
        obtain ⟨p, q, hpq, hrx, hry⟩ := vals_two h1 h2
        have ht0 : ts[0]? = some t := by rw [← Array.getElem?_toList, hts]; rfl
        have hsl := regs_ob hob (hal.regs (.obj slot) (by simp))
        obtain ⟨A2, cap2, ys, hq, hlc, hall, hreps, hfirst⟩ := elems_pre hs0 (es := er.1) (rd := er.2) her (fun z hz => hal.regs z (by simp [hz])) hrel.heap hry
        subst hq
        obtain ⟨A, cap, rfl⟩ := lenOf_rep (H := H) (c := .own slot off len) (n := len) (rd := [.obj slot]) (by simp [lenOf, hob]) (fun z hz => hal.regs z (by simp at hz; simp [hz])) hrx
        have hpre : PReps R w (er.1.take (min er.1.length len)).flatten (ys.take (min er.1.length len * s)) := by
          have hfl : (er.1.take (min er.1.length len)).flatten = er.1.flatten.take (min er.1.length len * s) := by
            have key : ∀ (l : List (List PC)) (n : Nat), (∀ e ∈ l, e.length = s) → (l.take n).flatten = l.flatten.take (n * s) := by
              intro l
              induction l with
              | nil => intro n _; simp
              | cons x l ih =>
                intro n hl
                cases n with
                | zero => simp
                | succ n =>
                  have hx := hl x (by simp)
                  rw [List.take_succ_cons, List.flatten_cons, List.flatten_cons, ih n (fun e he => hl e (by simp [he])), List.take_append, hx]
                  have e1 : x.take ((n + 1) * s) = x := List.take_of_length_le (by rw [hx, Nat.add_mul]; omega)
                  have e2 : (n + 1) * s - s = n * s := by rw [Nat.add_mul]; omega
                  rw [e1, e2]
            exact key er.1 _ hall
          rw [hfl]
          have := hreps.drop 0 (min er.1.length len * s)
          simpa using this
        obtain ⟨w1, g1, g2, g3⟩ := write_elems (G := E.G) (P := E.P) hrel.heap hsl hol (Nat.min_le_right er.1.length len) (by simp) hrx (fun e he => hall e (List.mem_of_mem_take he)) hpre
        refine ⟨κ, R, .int .i64 (min er.1.length len : Nat), w1, .inl ?_, rep_ints _ _, g2, g3⟩
        rw [run_builtin, hpq]
        simp only [builtin, Sem.run_bind]
        have hcopy : (Builtin.copy_ ts ty #[.slice A len cap, .slice A2 er.1.length cap2]).run E.P w = .ok (.int .i64 (min er.1.length len : Nat)) w1 := by
          unfold Builtin.copy_
          have ha0 : (#[Value.slice A len cap, .slice A2 er.1.length cap2] : Array Value)[0]? = some (.slice A len cap) := rfl
          have ha1 : (#[Value.slice A len cap, .slice A2 er.1.length cap2] : Array Value)[1]? = some (.slice A2 er.1.length cap2) := rfl
          rw [ht0, ha0, ha1]
          have hl2 : (Builtin.lenOf (.slice A2 er.1.length cap2)).run E.P w = .ok er.1.length w := rfl
          simp only [Sem.run_bind, run_underlying' hu, Result.andThen_ok, hl2, run_sizeOf' hs]
          have := hfirst E.P w (Nat.min er.1.length len) (Nat.min_le_left _ _) rfl
          rw [this]
          simp only [Result.andThen_ok]
          cases A with
          | none =>
            simp only [Sem.run_pure] at g1 ⊢
            cases g1
            rfl
          | some ad =>
            simp only [Sem.run_bind]
            have g1' : (storeCells ad (ys.take (min er.1.length len * s))).run E.P w = .ok () w1 := g1
            have hn : Nat.min er.1.length len = min er.1.length len := rfl
            rw [hn, g1']
            rfl
        rw [hcopy]
        rfl
      · cases h
    · cases h
  · -- clear
    next t slot off len =>
    simp only [Option.bind_eq_some_iff] at h
    obtain ⟨e, he, s, hs, z, hz, h⟩ := h
    have hu : E.P.underlying t = some (.slice e) := by
      unfold elemT at he
      split at he
      · next hu => cases he; exact hu
      · cases he
    split at h
    · next s' es hob =>
      split at h
      · next hcond =>
        obtain ⟨hss, hzl, hol, hlen0, hs0⟩ := hcond
        subst hss
        refine ⟨_, h, fun t' h' κ R a w hal hrel => ?_⟩
        obtain ⟨h1, h2⟩ := hvals hal hrel
        obtain ⟨p, hp, hrx⟩ := vals_one h1 h2
        have ht0 : ts[0]? = some t := by rw [← Array.getElem?_toList, hts]; rfl
        have hsl := regs_ob hob (hal.regs (.obj slot) (by simp))
        obtain ⟨A, cap, rfl⟩ := lenOf_rep (H := H) (c := .own slot off len) (n := len) (rd := [.obj slot]) (by simp [lenOf, hob]) (fun z hz => hal.regs z (by simp at hz; simp [hz])) hrx
        obtain ⟨zv, z1, z2, z3⟩ := run_zero' hz w
        have hzreps : PReps R w (List.replicate len (z.map PC.v)).flatten (List.replicate len z).flatten := by
          have : (List.replicate len (z.map PC.v)).flatten = ((List.replicate len z).flatten).map PC.v := by
            rw [List.map_flatten, List.map_replicate]
          rw [this]
          exact preps_vals (fun x hx => by
            simp only [List.mem_flatten, List.mem_replicate] at hx
            obtain ⟨l, ⟨_, rfl⟩, hx⟩ := hx
            exact z3 x hx)
        obtain ⟨w1, g1, g2, g3⟩ := write_elems (G := E.G) (P := E.P) hrel.heap hsl hol (Nat.le_refl len) (by simp) hrx (fun e he => by simp only [List.mem_replicate] at he; rw [he.2]; simpa using hzl) hzreps
        refine ⟨κ, R, .tuple #[], w1, .inl ?_, ⟨[], rfl, rfl, fun i x y h => by simp at h⟩, g2, g3⟩
        rw [run_builtin, hp]
        simp only [builtin, Sem.run_bind]
        have hclear : (Builtin.clear_ ts ty #[.slice A len cap]).run E.P w = .ok (.tuple #[]) w1 := by
          unfold Builtin.clear_
          have ha0 : (#[Value.slice A len cap] : Array Value)[0]? = some (.slice A len cap) := rfl
          rw [ht0, ha0]
          simp only [Sem.run_bind, run_underlying' hu, Result.andThen_ok]
          have hA : ∃ ad, A = some ad := by
            cases hrx with
            | ownDead _ _ _ _ hd => rw [hsl] at hd; cases hd
            | own _ _ _ _ _ s0 q1 q2 q3 q4 =>
              cases A with
              | none => have := q3 rfl; omega
              | some ad => exact ⟨ad, rfl⟩
          obtain ⟨ad, rfl⟩ := hA
          obtain ⟨m, rfl⟩ : ∃ m, len = m + 1 := ⟨len - 1, by omega⟩
          simp only [Sem.run_bind, z1, Result.andThen_ok]
          have hzc : (Builtin.zeroCells zv.cells (m + 1)).toList = (List.replicate (m + 1) z).flatten := by
            have hzv : zv.cells = z.toArray := by rw [← z2]
            rw [← zeros_list hzl hs0 (m + 1), hzv]
            simp [Builtin.zeroCells, hzl]
          rw [hzc]
          have g1' : (storeCells ad (List.replicate (m + 1) z).flatten).run E.P w = .ok () w1 := g1
          rw [g1']
          rfl
        rw [hclear]
        rfl
      · cases h
    · cases h
  · -- min
    next k n rest =>
    simp only [Option.bind_eq_some_iff] at h
    obtain ⟨l, hl, h⟩ := h
    refine ⟨_, h, .of_value fun t' h' κ R a w hal hrel => ?_⟩
    obtain ⟨h1, h2⟩ := hvals hal hrel
    have hys := intsOf_vals (k := k) (_ :: rest) (n :: l) (args.toList.map a.eval) (by simp [intsOf, hl]) (by simpa using h1) h2
    refine ⟨_, ?_, rep_ints _ _⟩
    rw [run_builtin]
    simp only [builtin, Sem.run_bind, Builtin.min_, Array.toList_map, hys, List.map_cons, run_mins, Result.andThen_ok, Sem.run_pure]
  · next k n rest =>
    simp only [Option.bind_eq_some_iff] at h
    obtain ⟨l, hl, h⟩ := h
    refine ⟨_, h, .of_value fun t' h' κ R a w hal hrel => ?_⟩
    obtain ⟨h1, h2⟩ := hvals hal hrel
    have hys := intsOf_vals (k := k) (_ :: rest) (n :: l) (args.toList.map a.eval) (by simp [intsOf, hl]) (by simpa using h1) h2
    refine ⟨_, ?_, rep_ints _ _⟩
    rw [run_builtin]
    simp only [builtin, Sem.run_bind, Builtin.max_, Array.toList_map, hys, List.map_cons, run_maxs, Result.andThen_ok, Sem.run_pure]
  · cases h

end ops
end Go.Ev
