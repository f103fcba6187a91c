/-
  The quick merging evaluator: operations, regions, code.
-/
import Derived.Test.YtaibdhmiglacdaaGreatDoorWt4

namespace Go.Ev
open Go
set_option maxRecDepth 100000

theorem putM_eq {ρ : Type} {N : Nat} {l : List AV} {t : TN} (h : AgN l t) (hN : l.length = N) (dst : Option Tmp) (v : NV) (K1 : TN → Option ρ) (y : Option ρ)
    (hK : ∀ t', AgN (putT l dst v.av) t' → (putT l dst v.av).length = N → K1 t' = y) : putM N t dst v K1 = y := by
  cases dst with
  | none => exact hK t h hN
  | some d => exact hK _ (pushN_ag h hN) (by simpa [putT] using hN)
theorem settleM_length (tm : List AV) (g : Tmp) (b : Bool) : (settle tm g b).length = tm.length := by simp [settle]
theorem noG_ng {v : AV} {gs : List Nat} : ∀ (g : Nat) (w : Bool) (x : SV), noG v = .g g w x → g ∈ gs := fun g w x h => by cases v <;> cases h

section
variable {ρ : Type} (E : Env)
variable (call : (f : FuncId) → List SV → Option (RTup (rks E f))) (bodyN : Nat → Code → TN → List Ob → HP → Nat → (X → TN → List Ob → HP → Nat → Option ρ) → Option ρ) (body : Code → St → (X → St → Option ρ) → Option ρ)
variable (hb : ∀ (N : Nat) (c : Code) (l : List AV) (t : TN) (H : List Ob) (K' : X → TN → List Ob → HP → Nat → Option ρ) (K : X → St → Option ρ), AgN l t → l.length = N →
  (∀ (e : X) (l : List AV) (t : TN) (H : List Ob), AgN l t → l.length = N → K' e t H (Hp H) H.length = K e ⟨l, H⟩) → bodyN N c t H (Hp H) H.length K' = body c ⟨l, H⟩ K)

theorem aheadN_eq {l : List AV} {t : TN} (h : AgN l t) (H : List Ob) (o : Oper) : aheadN E t H (Hp H) H.length o = aheadM E l H o := by
  have hop : aheadOp E t H (Hp H) H.length o = ahead E l H o := by
    unfold aheadOp ahead
    rw [near_eq h]
    have e := runN_eq (ρ := SV) E (natCall E) (fun _ _ _ _ _ _ _ => none) (fun _ _ _ => none) (fun _ _ _ _ _ _ _ _ _ _ => rfl) h H o (fun out _ => cond out.wr.isEmpty out.v.sv none) (fun out => if out.wr.isEmpty then out.v.sv else none)
      (fun o => by
        rw [NV.sv_eq]
        show cond o.wr.isEmpty _ _ = if o.wr.isEmpty = true then _ else _
        cases o.wr.isEmpty <;> rfl)
      (fun o H' _ => by
        rw [NV.sv_eq]
        show cond o.wr.isEmpty _ _ = if o.wr.isEmpty = true then _ else _
        cases o.wr.isEmpty <;> rfl)
    rw [e]
    cases (tame o.op && near l o.op) <;> rfl
  unfold aheadN aheadM
  split
  · next c x y hop' =>
    simp only [hop']
    exact pickN_eq h c x y _ _ fun v => NV.sv_eq v
  · next hne =>
    rw [hop]
    split
    · next c x y hop' => exact absurd hop' (hne c x y)
    · rfl

section
variable {ops : Array Oper} {N : Nat} {o : Oper} {gs gs' : List Nat} (hd : ∀ d, o.dst = some d → d ∉ gs) (hs : ∀ g ∈ gs, g ∈ gs') {cont' : CT ρ} {cont : List AV → List Ob → Option ρ}
  (hc : ∀ (l : List AV) (t : TN) (H : List Ob), AgN l t → l.length = N → GsOK l gs' → cont' t H (Hp H) H.length = cont l H)
include hd hs hc

theorem passM_eq {l : List AV} {t : TN} (h : AgN l t) (hN : l.length = N) (hg : GsOK l gs) (H : List Ob) :
    passM N t H (Hp H) H.length o cont' = if putOK l o.dst then cont (putT l o.dst (.tup [])) H else none := by
  rw [if_pos (hg.putOK o.dst hd)]
  exact putM_eq h hN _ _ _ _ fun t' h' hN' => hc _ _ _ h' hN' ((hg.mono hs).put _ fun g w x e => by cases e)

include hb in
theorem runM_eq {l : List AV} {t : TN} (h : AgN l t) (hN : l.length = N) (hg : GsOK l gs) (H : List Ob) :
    runM E call bodyN N t H (Hp H) H.length o cont' = (match o.op with
      | .pick c x y => pickM l c x y fun v => if putOK l o.dst then cont (putT l o.dst (noG v)) H else none
      | _ => opV E call body l H H.length o fun out => if putOK l o.dst then cont (putT l o.dst (noG out.v)) (puts H out.wr) else none) := by
  have hok := hg.putOK o.dst hd
  have h0 : ∀ out : OutN, finM N t H (Hp H) H.length o.dst cont' out none = (fun out : Out => if putOK l o.dst then cont (putT l o.dst (noG out.v)) (puts H out.wr) else none) out.out := fun out => by
    show _ = if putOK l o.dst then _ else _
    rw [if_pos hok]
    refine putM_eq h hN _ _ _ _ fun t' h' hN' => ?_
    rw [show noG out.out.v = (noGN out.v).av from (unAll_av out.v).symm]
    show putsN out.wr H (Hp H) H.length _ = _
    rw [putsN_eq]
    exact hc _ _ _ h' hN' ((hg.mono hs).put _ (by rw [show (noGN out.v).av = noG out.v.av from unAll_av out.v]; exact noG_ng))
  have h1 : ∀ (out : OutN) (H' : List Ob), out.wr = [.heap H'] → finM N t H (Hp H) H.length o.dst cont' out (some ⟨Hp H', H'.length⟩) = (fun out : Out => if putOK l o.dst then cont (putT l o.dst (noG out.v)) (puts H out.wr) else none) out.out := fun out H' hw => by
    show _ = if putOK l o.dst then _ else _
    rw [if_pos hok]
    refine putM_eq h hN _ _ _ _ fun t' h' hN' => ?_
    rw [show noG out.out.v = (noGN out.v).av from (unAll_av out.v).symm]
    have e : puts H out.wr = H' := by rw [hw]; rfl
    have e2 : puts H out.out.wr = H' := e
    show cont' t' (puts H out.wr) (Hp H') H'.length = _
    rw [e, e2]
    exact hc _ _ _ h' hN' ((hg.mono hs).put _ (by rw [show (noGN out.v).av = noG out.v.av from unAll_av out.v]; exact noG_ng))
  unfold runM
  split
  · next c x y hop =>
    simp only [hop]
    refine pickN_eq h c x y _ _ fun v => ?_
    rw [if_pos hok, ← unAll_av]
    exact putM_eq h hN _ _ _ _ fun t' h' hN' => hc _ _ _ h' hN' ((hg.mono hs).put _ (by rw [unAll_av]; exact noG_ng))
  · next hne =>
    have := runN_eq E call bodyN body hb h H o (finM N t H (Hp H) H.length o.dst cont') (fun out : Out => if putOK l o.dst then cont (putT l o.dst (noG out.v)) (puts H out.wr) else none) h0 h1
    rw [this]
    simp only [if_pos hok]
end

include hb in
theorem stepMN_eq {ops : Array Oper} {N : Nat} {o : Oper} {gs : List Nat} (hd : ∀ d, o.dst = some d → d ∉ gs) {cont' : CT ρ} {cont : List AV → List Ob → Option ρ}
    (hc : ∀ (l : List AV) (t : TN) (H : List Ob), AgN l t → l.length = N → GsOK l (match guardTmp ops o with | some g => g.1 :: gs | none => gs) → cont' t H (Hp H) H.length = cont l H) (H : List Ob) :
    ∀ (k : Nat) (l : List AV) (t : TN), AgN l t → l.length = N → GsOK l gs → stepMN E call bodyN ops N o H (Hp H) H.length cont' k t = stepM E call body ops o H cont k l := by
  have hs : ∀ g ∈ gs, g ∈ (match guardTmp ops o with | some g => g.1 :: gs | none => gs) := fun g hg => by
    split
    · exact List.mem_cons_of_mem _ hg
    · exact hg
  intro k
  induction k with
  | zero => intro l t h hN hg; rfl
  | succ k ih =>
    intro l t h hN hg
    have hrun : ∀ (l : List AV) (t : TN), AgN l t → l.length = N → GsOK l gs → runM E call bodyN N t H (Hp H) H.length o cont' = (match o.op with
      | .pick c x y => pickM l c x y fun v => if putOK l o.dst then cont (putT l o.dst (noG v)) H else none
      | _ => opV E call body l H H.length o fun out => if putOK l o.dst then cont (putT l o.dst (noG out.v)) (puts H out.wr) else none) := fun l t h hN hg => runM_eq E call bodyN body hb hd hs hc h hN hg H
    have hpass : ∀ (l : List AV) (t : TN), AgN l t → l.length = N → GsOK l gs → passM N t H (Hp H) H.length o cont' = if putOK l o.dst then cont (putT l o.dst (.tup [])) H else none := fun l t h hN hg => passM_eq hd hs hc h hN hg H
    simp only [stepMN, stepM]
    cases hgo : o.guard with
    | none => exact hrun l t h hN hg
    | some q =>
      dsimp only
      rw [ob_eq]
      cases hgt : guardTmp ops o with
      | none => rfl
      | some g =>
        simp only [Option.bind_some]
        rw [ob_eq, ← h g.1]
        cases htg : t g.1 with
        | none => rfl
        | some gv =>
          simp only [Option.bind_some, Option.map_some]
          have hlg : l[g.1]? = some gv.av := by rw [← h g.1, htg]; rfl
          have hset : ∀ b, AgN (settle l g.1 b) (settleN t g.1 b) := fun b => settleN_ag h hlg b
          have hsl : ∀ b, (settle l g.1 b).length = N := fun b => by rw [settleM_length]; exact hN
          have hsg : ∀ b, GsOK (settle l g.1 b) gs := fun b => hg.settle g.1 b
          have ha := aheadN_eq E (effN_ag h g.1 g.2) H o
          rw [ha, isTup_eq, gvN_eq, bl_eq]
          have hput : ∀ x : SV, putM N t o.dst (.other (.g g.1 g.2 x)) (fun t => cont' t H (Hp H) H.length) = if putOK l o.dst then cont (putT l o.dst (.g g.1 g.2 x)) H else none := fun x => by
            rw [if_pos (hg.putOK o.dst hd)]
            refine putM_eq h hN _ _ _ _ fun t' h' hN' => hc _ _ _ h' hN' ?_
            rw [hgt]
            exact (hg.mono fun g' hg' => List.mem_cons_of_mem _ hg').put _ fun g1 w1 x1 e => by cases e; exact List.mem_cons_self
          have hx : ∀ x : SV, cond (o.dst == some g.1) none (putM N t o.dst (.other (.g g.1 g.2 x)) fun t => cont' t H (Hp H) H.length) = if o.dst = some g.1 then none else if putOK l o.dst then cont (putT l o.dst (.g g.1 g.2 x)) H else none := fun x => by
            rw [hput]
            by_cases e : o.dst = some g.1
            · rw [if_pos e, e]; simp
            · rw [if_neg e]
              have : (o.dst == some g.1) = false := by rw [beq_eq_false_iff_ne]; exact e
              rw [this]; rfl
          have hsplit : ∀ b : Bool, splitM E call bodyN N t H (Hp H) H.length o g cont' b = cond b (if g.2 then (match o.op with
              | .pick c x y => pickM (settle l g.1 true) c x y fun v => if putOK (settle l g.1 true) o.dst then cont (putT (settle l g.1 true) o.dst (noG v)) H else none
              | _ => opV E call body (settle l g.1 true) H H.length o fun out => if putOK (settle l g.1 true) o.dst then cont (putT (settle l g.1 true) o.dst (noG out.v)) (puts H out.wr) else none) else if putOK (settle l g.1 true) o.dst then cont (putT (settle l g.1 true) o.dst (.tup [])) H else none)
              (if g.2 then (if putOK (settle l g.1 false) o.dst then cont (putT (settle l g.1 false) o.dst (.tup [])) H else none) else (match o.op with
              | .pick c x y => pickM (settle l g.1 false) c x y fun v => if putOK (settle l g.1 false) o.dst then cont (putT (settle l g.1 false) o.dst (noG v)) H else none
              | _ => opV E call body (settle l g.1 false) H H.length o fun out => if putOK (settle l g.1 false) o.dst then cont (putT (settle l g.1 false) o.dst (noG out.v)) (puts H out.wr) else none)) := fun b => by
            unfold splitM
            rw [hrun _ _ (hset true) (hsl true) (hsg true), hrun _ _ (hset false) (hsl false) (hsg false), hpass _ _ (hset true) (hsl true) (hsg true), hpass _ _ (hset false) (hsl false) (hsg false)]
            cases g.2 <;> rfl
          have hps := hpass l t h hN hg
          have hroot := rootN_eq h 4 g.1
          have hrb : ∀ b : Bool, ∀ v, l[rootOf l 4 g.1]? = some v → (AgN (settle l (rootOf l 4 g.1) b) (settleN t (rootOf l 4 g.1) b)) := fun b v hv => settleN_ag h hv b
          generalize gv.av = a at *
          cases a with
          | tup _ => exact hps
          | s y =>
            cases hah : aheadM E (effOf l g.1 g.2) H o with
            | some x => exact hx x
            | none =>
              cases y with
              | one z => cases z with
                | p z => cases z with
                  | v u => cases u with
                    | bool b => exact hsplit b
                    | _ => rfl
                  | _ => rfl
                | _ => rfl
              | _ => rfl
          | g g1 w1 x1 =>
            cases hah : aheadM E (effOf l g.1 g.2) H o with
            | some x => exact hx x
            | none =>
              show ob (ob (t (rootN t 4 g.1)) NV.bl) _ = _
              rw [hroot]
              have hbl : ob (t (rootOf l 4 g.1)) NV.bl = (l[rootOf l 4 g.1]?).bind fun v => match v with | .s (.one (.p (.v (.bool b)))) => some b | _ => none := by
                rw [ob_eq, ← h]
                cases t (rootOf l 4 g.1) with
                | none => rfl
                | some v => exact bl_eq v
              rw [hbl]
              have hih : ∀ (b : Bool) v, l[rootOf l 4 g.1]? = some v → stepMN E call bodyN ops N o H (Hp H) H.length cont' k (settleN t (rootOf l 4 g.1) b) = stepM E call body ops o H cont k (settle l (rootOf l 4 g.1) b) := fun b v hv =>
                ih _ _ (hrb b v hv) (by rw [settleM_length]; exact hN) (hg.settle _ b)
              cases hr : l[rootOf l 4 g.1]? with
              | none => rfl
              | some v =>
                cases v with
                | s y => cases y with
                  | one z => cases z with
                    | p z => cases z with
                      | v u => cases u with
                        | bool b => dsimp only [ob, Option.bind_some]; rw [hih true _ hr, hih false _ hr]
                        | _ => rfl
                      | _ => rfl
                    | _ => rfl
                  | _ => rfl
                | _ => rfl

include hb in
theorem opsMN_eq (ops : Array Oper) (N : Nat) (os : List Oper) : ∀ (gs : List Nat) (l : List AV) (t : TN) (H : List Ob) (K' : CT ρ) (K : List AV → List Ob → Option ρ), okOps ops os gs = true → AgN l t → l.length = N → GsOK l gs →
    (∀ (l : List AV) (t : TN) (H : List Ob), AgN l t → l.length = N → K' t H (Hp H) H.length = K l H) → opsMN E call bodyN ops N os K' t H (Hp H) H.length = opsM E call body ops os l H K := by
  induction os with
  | nil => intro gs l t H K' K hok h hN hg hK; exact hK l t H h hN
  | cons o rest ih =>
    intro gs l t H K' K hok h hN hg hK
    simp only [okOps, Bool.and_eq_true] at hok
    have hd : ∀ d, o.dst = some d → d ∉ gs := fun d hdst hm => by
      have := hok.1
      rw [hdst] at this
      simp only [Bool.not_eq_true'] at this
      rw [List.contains_iff_mem.2 hm] at this
      cases this
    exact stepMN_eq E call bodyN body hb hd (cont' := opsMN E call bodyN ops N rest K') (cont := fun tm H => opsM E call body ops rest tm H K) (fun l t H h hN hg => ih _ _ _ _ _ _ hok.2 h hN hg hK) H 4 l t h hN hg

include hb in
theorem codeM_eq (hm : E.merge = true) (N : Nat) (c : Code) : okCode c = true → ∀ (l : List AV) (t : TN) (H : List Ob) (K' : X → TN → List Ob → HP → Nat → Option ρ) (K : X → St → Option ρ), AgN l t → l.length = N →
    (∀ (e : X) (l : List AV) (t : TN) (H : List Ob), AgN l t → l.length = N → K' e t H (Hp H) H.length = K e ⟨l, H⟩) → codeM E call bodyN N c t H (Hp H) H.length K' = codeV E call body c ⟨l, H⟩ K := by
  induction c with
  | skip => intro _ l t H K' K h hN hK; exact hK _ _ _ _ h hN
  | region id ops draw =>
    intro hok l t H K' K h hN hK
    simp only [codeM, codeV, hm, Bool.true_and]
    cases E.cut id with
    | true => rfl
    | false =>
      simp only [Bool.false_eq_true, if_false, cond_false]
      cases draw with
      | true =>
        simp only [cond_true, if_true, Bool.not_true, Bool.false_eq_true, if_false]
        refine opsNL_eq E call bodyN body hb ops N _ _ _ _ _ _ _ h hN fun l t H lg h hN => ?_
        rw [hK _ _ _ _ h hN]
      | false =>
        simp only [cond_false, Bool.not_false, if_true]
        exact opsMN_eq E call bodyN body hb ops N _ [] _ _ _ _ _ (by simpa [okCode] using hok) (tidyN_ag h) (by simpa [tidy] using hN) (GsOK.tidy _ _) fun l t H h hN => hK _ _ _ _ h hN
  | seq a b iha ihb =>
    intro hok l t H K' K h hN hK
    simp only [okCode, Bool.and_eq_true] at hok
    simp only [codeM, codeV]
    refine iha hok.1 _ _ _ _ _ h hN fun e l t H h hN => ?_
    cases e with
    | normal => exact ihb hok.2 _ _ _ _ _ h hN hK
    | _ => exact hK _ _ _ _ h hN
  | cond c x y ihx ihy =>
    intro hok l t H K' K h hN hK
    simp only [okCode, Bool.and_eq_true] at hok
    simp only [codeM, codeV]
    refine ob_opd (opdN_ok h) c fun v => ?_
    rw [ihx hok.1 _ _ _ _ _ h hN hK, ihy hok.2 _ _ _ _ _ h hN hK, ob_eq, bl_eq]
    cases v.av with
    | s y => cases y with
      | one c => cases c with
        | p x => cases x with
          | v u => cases u <;> rfl
          | _ => rfl
        | _ => rfl
      | _ => rfl
    | _ => rfl
  | block id c ih =>
    intro hok l t H K' K h hN hK
    simp only [codeM, codeV]
    refine ih hok _ _ _ _ _ h hN fun e l t H h hN => ?_
    cases e with
    | exit id' => dsimp only; rw [beq_if]; split <;> exact hK _ _ _ _ h hN
    | _ => exact hK _ _ _ _ h hN
  | loop c ih =>
    intro hok l t H K' K h hN hK
    simp only [codeM, codeV]
    refine ih hok _ _ _ _ _ h hN fun e l t H h hN => ?_
    cases e with
    | normal => exact hb _ _ _ _ _ _ _ h hN hK
    | _ => exact hK _ _ _ _ h hN
  | exit id => intro _ l t H K' K h hN hK; exact hK _ _ _ _ h hN
  | ret => intro _ l t H K' K h hN hK; exact hK _ _ _ _ h hN
  | _ => intros; rfl
end
end Go.Ev
