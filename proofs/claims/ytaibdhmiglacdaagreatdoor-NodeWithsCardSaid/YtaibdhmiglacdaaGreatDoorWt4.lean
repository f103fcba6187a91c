/-
  The quick merging evaluator computes what the merging evaluator computes.
-/
import Derived.Test.YtaibdhmiglacdaaGreatDoorWt3

namespace Go.Ev
open Go
set_option maxRecDepth 100000

def avGV : AV → Option GV | .g g w x => some ⟨g, w, x⟩ | _ => none
theorem valN_ng (v : Value) : avGV (valN v).av = none := by rw [valN_av]; rfl
theorem gvN_eq (v : NV) : gvN v = avGV v.av := by
  cases v with
  | other v => cases v <;> rfl
  | _ => rfl
theorem ob_gv {l : List AV} {t : TN} (h : AgN l t) (g : Nat) : ob (t g) gvN = (l[g]?).bind avGV := by
  rw [← h g, ob_eq]
  cases t g with
  | none => rfl
  | some v => exact gvN_eq v
theorem chainN_eq {l : List AV} {t : TN} (h : AgN l t) : ∀ (n g : Nat) (w : Bool), chainN t n g w = chainOf l n g w := by
  intro n
  induction n with
  | zero => intro g w; rfl
  | succ n ih =>
    intro g w
    simp only [chainN, chainOf, ob_gv h]
    congr 1
    cases l[g]? with
    | none => rfl
    | some v => cases v with
      | g g1 w1 x => exact ih g1 w1
      | _ => rfl
theorem rootN_eq {l : List AV} {t : TN} (h : AgN l t) : ∀ (n g : Nat), rootN t n g = rootOf l n g := by
  intro n
  induction n with
  | zero => intro g; rfl
  | succ n ih =>
    intro g
    simp only [rootN, rootOf, ob_gv h]
    cases l[g]? with
    | none => rfl
    | some v => cases v with
      | g g1 w1 x => exact ih g1
      | _ => rfl
theorem inCh_eq (ch : List (Nat × Bool)) (g : Nat) (w : Bool) : inCh ch g w = ch.contains (g, w) := by
  induction ch with
  | nil => rfl
  | cons p ch ih =>
    obtain ⟨a, b⟩ := p
    show cond (Nat.beq a g) (cond (b == w) true (inCh ch g w)) (inCh ch g w) = _
    rw [ih, List.contains_cons]
    have e : ((g, w) == (a, b)) = (Nat.beq a g && (b == w)) := by
      rw [Bool.eq_iff_iff]
      simp only [beq_iff_eq, Prod.mk.injEq, Bool.and_eq_true, Nat.beq_eq]
      exact ⟨fun h => ⟨h.1.symm, h.2.symm⟩, fun h => ⟨h.1.symm, h.2.symm⟩⟩
    rw [e]
    cases Nat.beq a g <;> cases b == w <;> rfl
theorem unG_av (ch : List (Nat × Bool)) (v : NV) : (unG ch v).av = (match v.av with | .g g1 w1 x => if ch.contains (g1, w1) then .s x else v.av | a => a) := by
  unfold unG
  rw [gvN_eq]
  generalize hv : v.av = a
  cases a with
  | g g1 w1 x =>
    show (cond (inCh ch g1 w1) (svN x) v).av = _
    rw [inCh_eq]
    cases hc : ch.contains (g1, w1) with
    | true => show (svN x).av = _; rw [svN_av]; simp only [hc, if_true]
    | false => show v.av = _; rw [hv]; simp only [hc, Bool.false_eq_true, if_false]
  | _ => exact hv
theorem effN_ag {l : List AV} {t : TN} (h : AgN l t) (g : Nat) (w : Bool) : AgN (effOf l g w) (effN t (chainN t 4 g w)) := by
  intro i
  unfold effN effOf
  rw [chainN_eq h, List.getElem?_map, ← h i, ob_eq]
  cases t i with
  | none => rfl
  | some v =>
    simp only [Option.bind_some, Option.map_some, unG_av]
    cases v.av <;> rfl
theorem stG_av (g : Nat) (b : Bool) (v : NV) : (stG g b v).av = (match v.av with | .g g1 w x => if g1 = g then (if w = b then .s x else .tup []) else v.av | a => a) := by
  unfold stG
  rw [gvN_eq]
  generalize hv : v.av = a
  cases a with
  | g g1 w x =>
    show (cond (Nat.beq g1 g) (cond (w == b) (svN x) (.tup [])) v).av = _
    rw [beq_if]
    by_cases e : g1 = g
    · simp only [e, if_true]
      cases w <;> cases b <;> first | exact svN_av x | rfl
    · simp only [e, if_false]; exact hv
  | _ => exact hv
theorem settleN_ag {l : List AV} {t : TN} (h : AgN l t) {g : Nat} {v : AV} (hg : l[g]? = some v) (b : Bool) : AgN (settle l g b) (settleN t g b) := by
  intro i
  unfold settleN settle
  rw [List.getElem?_map, beq_if]
  by_cases e : i = g
  · subst e
    obtain ⟨hi, _⟩ := List.getElem?_eq_some_iff.1 hg
    rw [if_pos rfl, List.getElem?_set_self hi]; rfl
  · rw [if_neg e, List.getElem?_set_ne (Ne.symm e), ← h i, ob_eq]
    cases t i with
    | none => rfl
    | some v =>
      simp only [Option.bind_some, Option.map_some, stG_av]
      cases v.av <;> rfl
theorem unAll_av (v : NV) : (unAll v).av = noG v.av := by
  unfold unAll
  rw [gvN_eq]
  generalize hv : v.av = a
  cases a with
  | g g1 w x => rfl
  | _ => exact hv
theorem tidyN_ag {l : List AV} {t : TN} (h : AgN l t) : AgN (tidy l) (tidyN t) := by
  intro i
  unfold tidyN tidy
  rw [List.getElem?_map, ← h i, ob_eq]
  cases t i with
  | none => rfl
  | some v =>
    simp only [Option.bind_some, Option.map_some, unAll_av]
    congr 1

/-- The guards of what is merged are among these. -/
def GsOK (l : List AV) (gs : List Nat) : Prop := ∀ (i g : Nat) (w : Bool) (x : SV), l[i]? = some (.g g w x) → g ∈ gs
theorem GsOK.tidy (l : List AV) (gs : List Nat) : GsOK (tidy l) gs := by
  intro i g w x h
  unfold Go.Ev.tidy at h
  rw [List.getElem?_map] at h
  cases hl : l[i]? with
  | none => rw [hl] at h; cases h
  | some v => rw [hl] at h; cases v <;> cases h
theorem GsOK.settle {l : List AV} {gs : List Nat} (h : GsOK l gs) (g : Nat) (b : Bool) : GsOK (settle l g b) gs := by
  intro i g' w x hi
  unfold Go.Ev.settle at hi
  rw [List.getElem?_map, List.getElem?_set] at hi
  split at hi
  · split at hi
    · cases hi
    · cases hi
  · cases hl : l[i]? with
    | none => rw [hl] at hi; cases hi
    | some v =>
      rw [hl] at hi
      cases v with
      | g g1 w1 x1 =>
        simp only [Option.map_some] at hi
        split at hi
        · split at hi <;> cases hi
        · cases hi; exact h i _ _ _ hl
      | _ => cases hi
theorem GsOK.put {l : List AV} {gs : List Nat} (h : GsOK l gs) (dst : Option Tmp) {v : AV} (hv : ∀ g w x, v = .g g w x → g ∈ gs) : GsOK (putT l dst v) gs := by
  cases dst with
  | none => exact h
  | some d =>
    intro i g w x hi
    simp only [putT] at hi
    rw [List.getElem?_set] at hi
    split at hi
    · split at hi
      · exact hv g w x (Option.some.inj hi)
      · cases hi
    · exact h i g w x hi
theorem GsOK.mono {l : List AV} {gs gs' : List Nat} (h : GsOK l gs) (hs : ∀ g ∈ gs, g ∈ gs') : GsOK l gs' := fun i g w x hi => hs g (h i g w x hi)
theorem GsOK.putOK {l : List AV} {gs : List Nat} (h : GsOK l gs) (dst : Option Tmp) (hd : ∀ d, dst = some d → d ∉ gs) : putOK l dst = true := by
  cases dst with
  | none => rfl
  | some d =>
    simp only [Go.Ev.putOK, List.all_eq_true]
    intro v hv
    obtain ⟨i, hi, rfl⟩ := List.mem_iff_getElem.1 hv
    split
    · next g w x e =>
      have := h i g w x (by rw [List.getElem?_eq_getElem hi, e])
      rw [bne_iff_ne]
      intro hg
      exact hd d rfl (hg ▸ this)
    · rfl

theorem pickV_ne {α : Type} {b : Bool} {a d : AV} {K : AV → Option α} (h : ∀ p q, ¬ (a = boolV p ∧ d = boolV q)) : pickV b a d K = cond b (K a) (K d) := by
  unfold pickV
  split
  · next p q => exact absurd ⟨rfl, rfl⟩ (h p q)
  · rfl
theorem bl_some {v : NV} {p : Bool} (h : v.bl = some p) : v.av = boolV p := by
  rw [bl_eq] at h
  split at h
  · next b hv => rw [hv]; cases h; rfl
  · cases h
theorem pickN_eq {α : Type} {l : List AV} {t : TN} (h : AgN l t) (c x y : Operand) (K' : NV → Option α) (K : AV → Option α) (hK : ∀ v, K' v = K v.av) : pickN t c x y K' = pickM l c x y K := by
  have hside : ∀ b, AgN (sideOf l c b) (sideN t c b) := fun b => by
    cases c with
    | tmp i => exact effN_ag h i b
    | _ => exact h
  unfold pickN pickM
  refine ob_opd (opdN_ok h) c fun cv => ?_
  rw [bl_eq]
  have key : ∀ b : Bool, (ob (opdN (sideN t c true) x) fun xv => ob (opdN (sideN t c false) y) fun yv =>
      @Option.rec Bool (fun _ => Option α) (cond b (K' xv) (K' yv)) (fun p => @Option.rec Bool (fun _ => Option α) (cond b (K' xv) (K' yv)) (fun q => K' (.bool (cond b p q))) yv.bl) xv.bl) =
      (operand (sideOf l c true) x).bind fun xv => (operand (sideOf l c false) y).bind fun yv => pickV b xv yv K := fun b => by
    refine ob_opd (opdN_ok (hside true)) x (F := fun xv => (operand (sideOf l c false) y).bind fun yv => pickV b xv yv K) fun xv => ?_
    refine ob_opd (opdN_ok (hside false)) y (F := fun yv => pickV b xv.av yv K) fun yv => ?_
    cases hxb : xv.bl with
    | none =>
      show cond b (K' xv) (K' yv) = _
      rw [hK, hK, pickV_ne]
      rintro p q ⟨h1, _⟩
      rw [bl_eq, h1] at hxb
      cases hxb
    | some p =>
      cases hyb : yv.bl with
      | none =>
        show cond b (K' xv) (K' yv) = _
        rw [hK, hK, pickV_ne]
        rintro p q ⟨_, h1⟩
        rw [bl_eq, h1] at hyb
        cases hyb
      | some q =>
        show K' (.bool (cond b p q)) = _
        rw [hK, bl_some hxb, bl_some hyb]
        rfl
  cases cv.av with
  | s z => cases z with
    | one z => cases z with
      | p z => cases z with
        | v u => cases u with
          | bool b => exact key b
          | _ => rfl
        | _ => rfl
      | _ => rfl
    | _ => rfl
  | _ => rfl

section
variable {ρ : Type} (E : Env)
omit E in
theorem near_eq {l : List AV} {t : TN} (h : AgN l t) (op : Op) : nearN t op = near l op := by
  cases op with
  | load ty a =>
    simp only [nearN, near]
    rw [← opdN_ok h a]
    cases opdN t a with
    | none => rfl
    | some v =>
      cases v with
      | one c => cases c <;> rfl
      | other v => cases v with
        | s x => cases x with
          | one c => cases c <;> rfl
          | _ => rfl
        | _ => rfl
      | _ => rfl
  | call c =>
    obtain ⟨callee, args, ts⟩ := c
    cases callee with
    | value f =>
      simp only [nearN, near]
      refine congrArg (List.all args.toList) (funext fun x => ?_)
      have e : ob (opdN t x) NV.sv = (operand l x).bind AV.sv := by
        rw [← opdN_ok h x, ob_eq]
        cases opdN t x with
        | none => rfl
        | some v => exact NV.sv_eq v
      rw [e]
      unfold pureN
      cases (operand l x).bind AV.sv <;> rfl
    | _ => rfl
  | _ => rfl
end
end Go.Ev
