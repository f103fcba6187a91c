/-
  Functions by the quick merging evaluator.
  Code with loops whose laws are known, by the quick merging evaluator.
  Shapes of states: what is fixed, and what is open; loops and functions told by shapes.
-/
import Derived.Test.YtaibdhmiglacdaaGreatDoorWt5
import Derived.Test.YtaibdhmiglacdaaGreatDoorWt8

namespace Go.Ev
open Go
set_option maxRecDepth 100000

theorem fnM_sim {E : Env} (hmx : E.P.follows .mixedOrders = true) (hnat : NatOK E) (hm : E.merge = true) {n : Nat} {f : FuncId} {args : List SV} (hok : okCode (bodyOf E f) = true) {r : RTup (rks E f)} (h : fnM E n f args = some r) : FnOK E f args r := by
  unfold fnM at h
  simp only [Option.bind_eq_some_iff] at h
  obtain ⟨fn, hf, c, hb, h⟩ := h
  have hc : bodyOf E f = c := by unfold bodyOf; rw [hf]; simp [hb]
  rw [hc] at hok
  refine fn_of_code hf hb ?_
  refine codeV_sim (call := callE E n) (body := fun _ _ _ => none) hmx (callE_ok hmx hnat n) (fun c st K r h => by cases h) hnat.call c _ _ _ ?_
  rw [← h]
  have e : initSt fn args [] = ⟨(initSt fn args []).tmps, []⟩ := rfl
  rw [e]
  symm
  refine codeM_eq E (callE E n) (fun _ _ _ _ _ _ _ => none) (fun _ _ _ => none) (fun _ _ _ _ _ _ _ _ _ _ => rfl) hm (lenT fn args) c hok _ _ [] _ _ (initN_ag fn args []) (initT_len fn args []) ?_
  intro e l t H h _
  have hr : (resN E t (Hp H) fn.results.toList fn.resultTypes.toList fun vs => (cellsAll vs).bind fun cs => outCsQ (Hp H) [] (rks E f) cs) = resVals E ⟨l, H⟩ fn.results.toList fn.resultTypes.toList fun vs => (cellsAll vs).bind fun cs => outCs H [] (rks E f) cs := by
    rw [resN_eq E h]; simp only [outCsQ_eq]
  cases e <;> first | rfl | exact hr
/-- A law by the quick merging evaluator. -/
theorem lawM {E : Env} (hmx : E.P.follows .mixedOrders = true) (hnat : NatOK E) (hm : E.merge = true) {n : Nat} {f : FuncId} {args : List SV} {cs : List PC} (hok : okCode (bodyOf E f) = true) (h : fnM E n f args = decR (rks E f) cs) : Law E f args cs :=
  fun _ hr => fnM_sim hmx hnat hm hok (h.trans hr)
end Go.Ev

namespace Go.Ev
open Go
set_option maxRecDepth 100000

/-- What is known of a function's loops: by the loop's key, out of the state at its head. -/
abbrev LP := Nat → (Nat → Option AV) → (Nat → Option Ob) → Nat → Tr (X × List (Nat × AV) × List Ob)
def noLP : LP := fun _ _ _ _ => .fail

/-- Loops that are to be known: those that are walked round by round are passed over. -/
def loopsU (un : List Nat) : Code → List Code
  | .seq a b => loopsU un a ++ loopsU un b
  | .cond _ x y => loopsU un x ++ loopsU un y
  | .block _ c => loopsU un c
  | .loop c => cond (memN (loopKey c) un) (loopsU un c) [c]
  | _ => []
section
variable {ρ : Type} (E : Env) (call : (f : FuncId) → List SV → Option (RTup (rks E f))) (body : Code → St → (X → St → Option ρ) → Option ρ) (lp : LP) (un : List Nat) (bodyU : Code → St → (X → St → Option ρ) → Option ρ)
noncomputable def codeL : Code → St → (X → St → Option ρ) → Option ρ
  | .seq a b, st, K => codeL a st fun e st' => match e with | .normal => codeL b st' K | e => K e st'
  | .cond c x y, st, K => (operand st.tmps c).bind fun v => v.val.bind fun u => match u with | .bool b => cond b (codeL x st K) (codeL y st K) | _ => none
  | .block id c, st, K => codeL c st fun e st' => match e with | .exit id' => if id' = id then K .normal st' else K (.exit id') st' | e => K e st'
  | .loop c, st, K => cond (memN (loopKey c) un) (codeL c st fun e st' => match e with | .normal => bodyU (.loop c) st' K | e => K e st')
      ((lp (loopKey c) (fun i => st.tmps[i]?) (fun i => st.heap[i]?) st.heap.length).run fun v => K v.1 ⟨build st.tmps.length v.2.1, v.2.2⟩)
  | c, st, K => codeV E call body c st K
end

/-- What a law of loops is to say. -/
def LPok (E : Env) (base : List Ob) (lp : LP) (un : List Nat) (c : Code) : Prop :=
  ∀ c' ∈ loopsU un c, ∀ (l : List AV) (H : List Ob) (v : X × List (Nat × AV) × List Ob), (lp (loopKey c') (fun i => l[i]?) (fun i => H[i]?) H.length).val = some v → CodeB E base (.loop c') ⟨l, H⟩ v.1 ⟨build l.length v.2.1, v.2.2⟩

section
variable {ρ : Type} {E : Env} {call : (f : FuncId) → List SV → Option (RTup (rks E f))} {body : Code → St → (X → St → Option ρ) → Option ρ} {lp : LP} {un : List Nat} {bodyU : Code → St → (X → St → Option ρ) → Option ρ} {base : List Ob}
theorem codeL_sim (hU : ∀ c, LPok E base lp un (.loop c) → memN (loopKey c) un = true → ∀ (st : St) (K : X → St → Option ρ) (r : ρ), bodyU (.loop c) st K = some r → ∃ (e : X) (st' : St), K e st' = some r ∧ CodeB E base (.loop c) st e st') (hm : E.P.follows .mixedOrders = true) (hcall : ∀ f as r, call f as = some r → natPre E f as = true → FnOK E f as r) (hbody : ∀ c st K r, body c st K = some r → CodeOK E c st K r) (hnat : ∀ f as r, natCall E f as = some r → FnOK E f as r) (c : Code) :
    LPok E base lp un c → ∀ (st : St) (K : X → St → Option ρ) (r : ρ), codeL E call body lp un bodyU c st K = some r → ∃ (e : X) (st' : St), K e st' = some r ∧ CodeB E base c st e st' := by
  have gen : ∀ (c : Code) (st : St) (K : X → St → Option ρ) (r : ρ), codeV E call body c st K = some r → ∃ (e : X) (st' : St), K e st' = some r ∧ CodeB E base c st e st' := fun c st K r h => by
    obtain ⟨e, st', h1, h2, h3⟩ := codeV_sim hm hcall hbody hnat c st K r h
    exact ⟨e, st', h1, CodeTo.b ⟨h2, h3⟩⟩
  induction c with
  | seq x y ihx ihy =>
    intro hlp st K r h
    unfold codeL at h
    obtain ⟨e1, st1, hK, hl, hwp⟩ := ihx (fun c hc => hlp c (by simp [loopsU, hc])) _ _ _ h
    cases e1 with
    | normal =>
      obtain ⟨e2, st2, hK2, hl2, hwp2⟩ := ihy (fun c hc => hlp c (by simp [loopsU, hc])) _ _ _ hK
      refine ⟨e2, st2, hK2, hl2.trans hl, fun κ0 R0 w0 κ R a w hrel hf => wp_seq (wp_mono (hwp κ0 R0 w0 κ R a w hrel hf).wp ?_)⟩
      rintro e' a' w' ⟨rfl, κ', R', hr, hf'⟩
      refine wp_mono (hwp2 κ0 R0 w0 κ' R' a' w' (by rw [hl]; exact hr) hf').wp ?_
      rintro e'' a'' w'' ⟨he, κ2, R2, h3, h4⟩
      rw [hl] at h3
      exact ⟨he, κ2, R2, h3, h4⟩
    | exit id =>
      refine ⟨.exit id, st1, hK, hl, fun κ0 R0 w0 κ R a w hrel hf => wp_seq (wp_mono (hwp κ0 R0 w0 κ R a w hrel hf).wp ?_)⟩
      rintro e' a' w' ⟨rfl, h⟩
      exact ⟨rfl, h⟩
    | ret =>
      refine ⟨.ret, st1, hK, hl, fun κ0 R0 w0 κ R a w hrel hf => wp_seq (wp_mono (hwp κ0 R0 w0 κ R a w hrel hf).wp ?_)⟩
      rintro e' a' w' ⟨rfl, h⟩
      exact ⟨rfl, h⟩
  | cond c x y ihx ihy =>
    intro hlp st K r h
    unfold codeL at h
    simp only [Option.bind_eq_some_iff] at h
    obtain ⟨v, hv, u, hu, h⟩ := h
    cases u with
    | bool b =>
      have hb : ∀ (κ : Kap) (R : Nat → Prop) (a : Act) (w : World), Rel E.G κ R st.tmps.length (tget st.tmps) (hget st.heap) a w → a.eval c = .bool b := fun κ R a w hrel =>
        val_rep hu (operand_rep hrel hv fun _ _ => rfl)
      cases b with
      | true =>
        obtain ⟨e1, st1, hK, hl, hwp⟩ := ihx (fun c hc => hlp c (by simp [loopsU, hc])) _ _ _ h
        exact ⟨e1, st1, hK, hl, fun κ0 R0 w0 κ R a w hrel hf => wp_cond_true (hb κ R a w hrel) (hwp κ0 R0 w0 κ R a w hrel hf).wp⟩
      | false =>
        obtain ⟨e1, st1, hK, hl, hwp⟩ := ihy (fun c hc => hlp c (by simp [loopsU, hc])) _ _ _ h
        exact ⟨e1, st1, hK, hl, fun κ0 R0 w0 κ R a w hrel hf => wp_cond_false (hb κ R a w hrel) (hwp κ0 R0 w0 κ R a w hrel hf).wp⟩
    | _ => cases h
  | block id c ih =>
    intro hlp st K r h
    unfold codeL at h
    obtain ⟨e1, st1, hK, hl, hwp⟩ := ih (fun c hc => hlp c (by simp [loopsU, hc])) _ _ _ h
    cases e1 with
    | normal =>
      refine ⟨.normal, st1, hK, hl, fun κ0 R0 w0 κ R a w hrel hf => wp_block (wp_mono (hwp κ0 R0 w0 κ R a w hrel hf).wp ?_)⟩
      rintro e' a' w' ⟨rfl, h⟩
      exact ⟨rfl, h⟩
    | exit id' =>
      simp only at hK
      split at hK
      · next hid =>
        refine ⟨.normal, st1, hK, hl, fun κ0 R0 w0 κ R a w hrel hf => wp_block (wp_mono (hwp κ0 R0 w0 κ R a w hrel hf).wp ?_)⟩
        rintro e' a' w' ⟨rfl, h⟩
        simp only [X.conc, Exit.inBlock, if_pos hid]
        exact ⟨trivial, h⟩
      · next hid =>
        refine ⟨.exit id', st1, hK, hl, fun κ0 R0 w0 κ R a w hrel hf => wp_block (wp_mono (hwp κ0 R0 w0 κ R a w hrel hf).wp ?_)⟩
        rintro e' a' w' ⟨rfl, h⟩
        simp only [X.conc, Exit.inBlock, if_neg hid]
        exact ⟨trivial, h⟩
    | ret =>
      refine ⟨.ret, st1, hK, hl, fun κ0 R0 w0 κ R a w hrel hf => wp_block (wp_mono (hwp κ0 R0 w0 κ R a w hrel hf).wp ?_)⟩
      rintro e' a' w' ⟨rfl, h⟩
      exact ⟨rfl, h⟩
  | loop c ih =>
    intro hlp st K r h
    unfold codeL at h
    cases hk : memN (loopKey c) un with
    | false =>
      rw [hk, cond_false, Tr.run_val] at h
      simp only [Option.bind_eq_some_iff] at h
      obtain ⟨v, hv, h⟩ := h
      exact ⟨v.1, _, h, hlp c (by simp [loopsU, hk]) st.tmps st.heap v hv⟩
    | true =>
      rw [hk, cond_true] at h
      obtain ⟨e1, st1, hK, h1⟩ := ih (fun c' hc' => hlp c' (by simp only [loopsU, hk, cond_true]; exact hc')) _ _ _ h
      cases e1 with
      | normal =>
        obtain ⟨e2, st2, hK2, h2⟩ := hU c hlp hk _ _ _ hK
        exact ⟨e2, st2, hK2, h1.next h2⟩
      | exit id => exact ⟨.exit id, st1, hK, h1.stop (fun h => by cases h)⟩
      | ret => exact ⟨.ret, st1, hK, h1.stop (fun h => by cases h)⟩
  | _ => intro _ st K r h; unfold codeL at h; exact gen _ st K r h
end

/-! ### The quick one -/
section
variable {ρ : Type} (E : Env)
variable (call : (f : FuncId) → List SV → Option (RTup (rks E f))) (body : Nat → Code → TN → List Ob → HP → Nat → (X → TN → List Ob → HP → Nat → Option ρ) → Option ρ)
/-- A drawn region, nothing forced. -/
noncomputable def opsNS (ops : Array Oper) (N : Nat) : List Oper → TN → List Ob → HP → Nat → List Log → (TN → List Ob → HP → Nat → List Log → Option ρ) → Option ρ
  | [], t, H, hp, n, lg, K => K t H hp n lg
  | o :: rest, t, H, hp, n, lg, K =>
    let fin (out : OutN) (hq : Option HQ) : Option ρ := putM N t o.dst out.v fun t => putHN out.wr hq H hp n fun H hp n' => opsNS ops N rest t H hp n' (lg ++ [⟨o.dst, out.rd ++ (List.range' n (out.nb - n)).map .obj, out.wr⟩]) K
    let run : Option ρ := opTab o.op ρ E (opdN t) hp n (callOp E call body (opdN t) H hp n fin) fun out => fin out none
    let pass : Option ρ := putM N t o.dst (.tup []) fun t => opsNS ops N rest t H hp n (lg ++ [⟨o.dst, [], []⟩]) K
    match o.guard with
    | none => run
    | some _ => ob (guardTmp ops o) fun g => ob (t g.1) fun v => cond (isTup v) pass (ob v.bl fun b => cond b (cond g.2 run pass) (cond g.2 pass run))
noncomputable def tnB (N : Nat) (kvs : List (Nat × AV)) : TN := fun i => cond (Nat.blt i N) (some (avN (lookupN i kvs))) none
variable (lp : LP) (un : List Nat) (bodyU : Nat → Code → TN → List Ob → HP → Nat → (X → TN → List Ob → HP → Nat → Option ρ) → Option ρ)
noncomputable def codeML (N : Nat) : Code → TN → List Ob → HP → Nat → (X → TN → List Ob → HP → Nat → Option ρ) → Option ρ
  | .region id ops draw, t, H, hp, n, K => cond (E.cut id) none (cond draw (opsNS E call body ops N ops.toList t H hp n [] fun t H hp n lg => cond (indepAll ops lg) (K .normal t H hp n) none) (opsMN E call body ops N ops.toList (K .normal) (tidyN t) H hp n))
  | .seq a b, t, H, hp, n, K => codeML N a t H hp n fun e t' H' hp' n' => match e with | .normal => codeML N b t' H' hp' n' K | e => K e t' H' hp' n'
  | .cond c x y, t, H, hp, n, K => ob (opdN t c) fun v => ob v.bl fun b => cond b (codeML N x t H hp n K) (codeML N y t H hp n K)
  | .block id c, t, H, hp, n, K => codeML N c t H hp n fun e t' H' hp' n' => match e with | .exit id' => cond (Nat.beq id' id) (K .normal t' H' hp' n') (K (.exit id') t' H' hp' n') | e => K e t' H' hp' n'
  | .loop c, t, H, hp, n, K => cond (memN (loopKey c) un) (codeML N c t H hp n fun e t' H' hp' n' => match e with | .normal => bodyU N (.loop c) t' H' hp' n' K | e => K e t' H' hp' n')
      ((lp (loopKey c) (fun i => (t i).map NV.av) hp n).run fun v => K v.1 (tnB N v.2.1) v.2.2 (Hp v.2.2) v.2.2.length)
  | .exit id, t, H, hp, n, K => K (.exit id) t H hp n
  | .ret, t, H, hp, n, K => K .ret t H hp n
  | .skip, t, H, hp, n, K => K .normal t H hp n
  | _, _, _, _, _, _ => none
end
/-- No operation writes what guards an earlier one; nothing is left out. -/
def okCodeL : Code → Bool
  | .region _ ops draw => draw || okOps ops ops.toList []
  | .seq a b => okCodeL a && okCodeL b
  | .cond _ x y => okCodeL x && okCodeL y
  | .block _ c => okCodeL c
  | .loop c => okCodeL c
  | _ => true
theorem build_get (N : Nat) (kvs : List (Nat × AV)) (i : Nat) : (build N kvs)[i]? = if i < N then some (lookupN i kvs) else none := by
  unfold build
  rw [buildFrom_get, Nat.zero_add]
theorem tnB_ag (N : Nat) (kvs : List (Nat × AV)) : AgN (build N kvs) (tnB N kvs) := by
  intro i
  rw [build_get]
  unfold tnB
  cases hb : Nat.blt i N with
  | true =>
    have := blt_iffL.1 hb
    rw [if_pos this]
    show some (avN (lookupN i kvs)).av = _
    rw [avN_av]
  | false =>
    rw [if_neg (fun hlt => by rw [blt_iffL.2 hlt] at hb; cases hb)]
    rfl

section
variable {ρ : Type} (E : Env)
variable (call : (f : FuncId) → List SV → Option (RTup (rks E f))) (bodyN : Nat → Code → TN → List Ob → HP → Nat → (X → TN → List Ob → HP → Nat → Option ρ) → Option ρ) (body : Code → St → (X → St → Option ρ) → Option ρ)
variable (hb : ∀ (N : Nat) (c : Code) (l : List AV) (t : TN) (H : List Ob) (K' : X → TN → List Ob → HP → Nat → Option ρ) (K : X → St → Option ρ), AgN l t → l.length = N →
  (∀ (e : X) (l : List AV) (t : TN) (H : List Ob), AgN l t → l.length = N → K' e t H (Hp H) H.length = K e ⟨l, H⟩) → bodyN N c t H (Hp H) H.length K' = body c ⟨l, H⟩ K)
/-- What becomes of an outcome. -/
theorem fin_eqS {N : Nat} {l : List AV} {t : TN} (h : AgN l t) (hN : l.length = N) (H : List Ob) (dst : Option Tmp) (G' : OutN → TN → List Ob → HP → Nat → Option ρ) (G : Out → List AV → List Ob → Option ρ)
    (hG : ∀ (o : OutN) (l : List AV) (t : TN) (H : List Ob), AgN l t → l.length = N → G' o t H (Hp H) H.length = G o.out l H) :
    (∀ o : OutN, (putM N t dst o.v fun t => putHN o.wr none H (Hp H) H.length fun H hp n => G' o t H hp n) = G o.out (putT l dst o.out.v) (puts H o.out.wr)) ∧
    (∀ (o : OutN) (H' : List Ob), o.wr = [.heap H'] → (putM N t dst o.v fun t => putHN o.wr (some ⟨Hp H', H'.length⟩) H (Hp H) H.length fun H hp n => G' o t H hp n) = G o.out (putT l dst o.out.v) (puts H o.out.wr)) := by
  constructor
  · intro o
    refine putM_eq h hN _ _ _ _ fun t' h' hN' => ?_
    show putsN o.wr H (Hp H) H.length _ = _
    rw [putsN_eq]
    exact hG o _ _ _ h' hN'
  · intro o H' hw
    refine putM_eq h hN _ _ _ _ fun t' h' hN' => ?_
    have e : puts H o.wr = H' := by rw [hw]; rfl
    show G' o t' (puts H o.wr) (Hp H') H'.length = _
    rw [e]
    have := hG o _ _ H' h' hN'
    rw [this]
    have e2 : puts H o.out.wr = H' := e
    rw [e2]
    rfl
include hb
theorem opsNS_eq (ops : Array Oper) (N : Nat) (os : List Oper) : ∀ (l : List AV) (t : TN) (H : List Ob) (lg : List Log) (K' : TN → List Ob → HP → Nat → List Log → Option ρ) (K : List AV → List Ob → List Log → Option ρ), AgN l t → l.length = N →
    (∀ (l : List AV) (t : TN) (H : List Ob) (lg : List Log), AgN l t → l.length = N → K' t H (Hp H) H.length lg = K l H lg) → opsNS E call bodyN ops N os t H (Hp H) H.length lg K' = opsV E call body ops os l H lg K := by
  induction os with
  | nil => intro l t H lg K' K h hN hK; exact hK l t H lg h hN
  | cons o rest ih =>
    intro l t H lg K' K h hN hK
    have hfin := fin_eqS h hN H o.dst (fun out t H' hp n => opsNS E call bodyN ops N rest t H' hp n (lg ++ [⟨o.dst, out.rd ++ (List.range' H.length (out.nb - H.length)).map .obj, out.wr⟩]) K') (fun out l H' => opsV E call body ops rest l H' (lg ++ [⟨o.dst, out.rd ++ (List.range' H.length (out.nb - H.length)).map .obj, out.wr⟩]) K)
      (fun out l t H' h hN => ih l t H' _ K' K h hN hK)
    have hrun := runN_eq E call bodyN body hb h H o (fun out hq => putM N t o.dst out.v fun t => putHN out.wr hq H (Hp H) H.length fun H' hp n' => opsNS E call bodyN ops N rest t H' hp n' (lg ++ [⟨o.dst, out.rd ++ (List.range' H.length (out.nb - H.length)).map .obj, out.wr⟩]) K')
      (fun out => opsV E call body ops rest (putT l o.dst out.v) (puts H out.wr) (lg ++ [⟨o.dst, out.rd ++ (List.range' H.length (out.nb - H.length)).map .obj, out.wr⟩]) K) hfin.1 hfin.2
    have hpass : (putM N t o.dst (.tup []) fun t => opsNS E call bodyN ops N rest t H (Hp H) H.length (lg ++ [⟨o.dst, [], []⟩]) K') = opsV E call body ops rest (putT l o.dst (.tup [])) H (lg ++ [⟨o.dst, [], []⟩]) K := by
      refine putM_eq h hN _ _ _ _ fun t' h' hN' => ?_
      exact ih _ _ _ _ _ _ h' hN' hK
    let runF : List AV → Option ρ := fun tm => opV E call body tm H H.length o fun out => opsV E call body ops rest (putT tm o.dst out.v) (puts H out.wr) (lg ++ [⟨o.dst, out.rd ++ (List.range' H.length (out.nb - H.length)).map .obj, out.wr⟩]) K
    let passF : List AV → Option ρ := fun tm => opsV E call body ops rest (putT tm o.dst (.tup [])) H (lg ++ [⟨o.dst, [], []⟩]) K
    simp only [opsNS, opsV]
    cases o.guard with
    | none => exact hrun
    | some _ =>
      exact guard_eq h ops o _ _ runF passF hrun hpass
theorem codeML_eq {un : List Nat} {bodyU : Code → St → (X → St → Option ρ) → Option ρ} {bodyUN : Nat → Code → TN → List Ob → HP → Nat → (X → TN → List Ob → HP → Nat → Option ρ) → Option ρ}
    (hbU : ∀ (N : Nat) (c : Code), okCodeL c = true → ∀ (l : List AV) (t : TN) (H : List Ob) (K' : X → TN → List Ob → HP → Nat → Option ρ) (K : X → St → Option ρ), AgN l t → l.length = N →
      (∀ (e : X) (l : List AV) (t : TN) (H : List Ob), AgN l t → l.length = N → K' e t H (Hp H) H.length = K e ⟨l, H⟩) → bodyUN N c t H (Hp H) H.length K' = bodyU c ⟨l, H⟩ K) (hm : E.merge = true) (lp : LP) (N : Nat) (c : Code) : okCodeL c = true → ∀ (l : List AV) (t : TN) (H : List Ob) (K' : X → TN → List Ob → HP → Nat → Option ρ) (K : X → St → Option ρ), AgN l t → l.length = N →
    (∀ (e : X) (l : List AV) (t : TN) (H : List Ob), AgN l t → l.length = N → K' e t H (Hp H) H.length = K e ⟨l, H⟩) → codeML E call bodyN lp un bodyUN N c t H (Hp H) H.length K' = codeL E call body lp un bodyU c ⟨l, H⟩ K := by
  induction c with
  | skip => intro _ l t H K' K h hN hK; exact hK _ _ _ _ h hN
  | region id ops draw =>
    intro hok l t H K' K h hN hK
    simp only [codeML, codeL, codeV, hm, Bool.true_and]
    cases E.cut id with
    | true => rfl
    | false =>
      simp only [Bool.false_eq_true, if_false, cond_false]
      cases draw with
      | true =>
        simp only [cond_true, if_true, Bool.not_true, Bool.false_eq_true, if_false]
        refine opsNS_eq E call bodyN body hb ops N _ _ _ _ _ _ _ h hN fun l t H lg h hN => ?_
        rw [hK _ _ _ _ h hN]
      | false =>
        simp only [cond_false, Bool.not_false, if_true]
        exact opsMN_eq E call bodyN body hb ops N _ [] _ _ _ _ _ (by simpa [okCodeL] using hok) (tidyN_ag h) (by simpa [tidy] using hN) (GsOK.tidy _ _) fun l t H h hN => hK _ _ _ _ h hN
  | seq a b iha ihb =>
    intro hok l t H K' K h hN hK
    simp only [okCodeL, Bool.and_eq_true] at hok
    simp only [codeML, codeL]
    refine iha hok.1 _ _ _ _ _ h hN fun e l t H h hN => ?_
    cases e with
    | normal => exact ihb hok.2 _ _ _ _ _ h hN hK
    | _ => exact hK _ _ _ _ h hN
  | cond c x y ihx ihy =>
    intro hok l t H K' K h hN hK
    simp only [okCodeL, Bool.and_eq_true] at hok
    simp only [codeML, codeL]
    refine ob_opd (opdN_ok h) c fun v => ?_
    rw [ihx hok.1 _ _ _ _ _ h hN hK, ihy hok.2 _ _ _ _ _ h hN hK, ob_eq, bl_eq]
    cases v.av with
    | s y => cases y with
      | one c => cases c with
        | p x => cases x with
          | v u => cases u <;> rfl
          | _ => rfl
        | _ => rfl
      | _ => rfl
    | _ => rfl
  | block id c ih =>
    intro hok l t H K' K h hN hK
    simp only [codeML, codeL]
    refine ih hok _ _ _ _ _ h hN fun e l t H h hN => ?_
    cases e with
    | exit id' => dsimp only; rw [beq_if]; split <;> exact hK _ _ _ _ h hN
    | _ => exact hK _ _ _ _ h hN
  | loop c ih =>
    intro hok l t H K' K h hN hK
    simp only [codeML, codeL]
    cases memN (loopKey c) un with
    | true =>
      refine ih (by simpa [okCodeL] using hok) _ _ _ _ _ h hN fun e l t H h hN => ?_
      cases e with
      | normal => exact hbU _ _ hok _ _ _ _ _ h hN hK
      | _ => exact hK _ _ _ _ h hN
    | false =>
    simp only [cond_false]
    rw [Tr.run_val, Tr.run_val]
    have e1 : (fun i => (t i).map NV.av) = fun i => l[i]? := funext h
    have e2 : Hp H = fun i => H[i]? := rfl
    rw [e1, e2]
    refine congrArg (Option.bind _) (funext fun v => ?_)
    rw [hN]
    exact hK _ _ _ _ (tnB_ag N v.2.1) (build_length _ _)
  | exit id => intro _ l t H K' K h hN hK; exact hK _ _ _ _ h hN
  | ret => intro _ l t H K' K h hN hK; exact hK _ _ _ _ h hN
  | _ => intros; rfl
end

/-- Bodies that are walked in the caller's heap, and loops that are walked round by round: so deep. -/
noncomputable def inlB (E : Env) (call : (f : FuncId) → List SV → Option (RTup (rks E f))) (ρ : Type) (lp : LP) (un : List Nat) (bI : Nat → Code → TN → List Ob → HP → Nat → (X → TN → List Ob → HP → Nat → Option ρ) → Option ρ) :
    Nat → Nat → Code → TN → List Ob → HP → Nat → (X → TN → List Ob → HP → Nat → Option ρ) → Option ρ
  | 0, _, _, _, _, _, _, _ => none
  | d + 1, N, c, t, H, hp, n, K => cond (okCodeL c) (codeML E call bI lp un (inlB E call ρ lp un bI d) N c t H hp n K) none
noncomputable def inlS (E : Env) (call : (f : FuncId) → List SV → Option (RTup (rks E f))) (ρ : Type) (lp : LP) (un : List Nat) (bI : Code → St → (X → St → Option ρ) → Option ρ) : Nat → Code → St → (X → St → Option ρ) → Option ρ
  | 0, _, _, _ => none
  | d + 1, c, st, K => cond (okCodeL c) (codeL E call bI lp un (inlS E call ρ lp un bI d) c st K) none
/-- The two of a piece agree. -/
def Agree {ρ : Type} (bN : Nat → Code → TN → List Ob → HP → Nat → (X → TN → List Ob → HP → Nat → Option ρ) → Option ρ) (b : Code → St → (X → St → Option ρ) → Option ρ) : Prop :=
  ∀ (N : Nat) (c : Code) (l : List AV) (t : TN) (H : List Ob) (K' : X → TN → List Ob → HP → Nat → Option ρ) (K : X → St → Option ρ), AgN l t → l.length = N →
    (∀ (e : X) (l : List AV) (t : TN) (H : List Ob), AgN l t → l.length = N → K' e t H (Hp H) H.length = K e ⟨l, H⟩) → bN N c t H (Hp H) H.length K' = b c ⟨l, H⟩ K
theorem inl_eq {E : Env} (hm : E.merge = true) (call : (f : FuncId) → List SV → Option (RTup (rks E f))) (ρ : Type) (lp : LP) (un : List Nat) {bIN : Nat → Code → TN → List Ob → HP → Nat → (X → TN → List Ob → HP → Nat → Option ρ) → Option ρ} {bI : Code → St → (X → St → Option ρ) → Option ρ} (hI : Agree bIN bI) :
    ∀ (d : Nat), Agree (inlB E call ρ lp un bIN d) (inlS E call ρ lp un bI d)
  | 0 => fun _ _ _ _ _ _ _ _ _ _ => rfl
  | d + 1 => fun N c l t H K' K h hN hK => by
    unfold inlB inlS
    cases hok : okCodeL c with
    | false => rfl
    | true => exact codeML_eq E call _ _ hI (fun N c _ => inl_eq hm call ρ lp un hI d N c) hm lp N c hok l t H K' K h hN hK
/-- No laws of loops. -/
theorem noLP_ok {E : Env} {base : List Ob} {un : List Nat} {c : Code} : LPok E base noLP un c := fun _ _ _ _ v h => by cases h
theorem unr_sim {E : Env} (hmx : E.P.follows .mixedOrders = true) {call : (f : FuncId) → List SV → Option (RTup (rks E f))} (hcall : ∀ f as r, call f as = some r → natPre E f as = true → FnOK E f as r) (hnat : ∀ f as r, natCall E f as = some r → FnOK E f as r)
    {ρ : Type} {lp : LP} {un : List Nat} {bI : Code → St → (X → St → Option ρ) → Option ρ} (hI : ∀ c st K r, bI c st K = some r → CodeOK E c st K r) {base : List Ob} :
    ∀ (d : Nat) (c : Code), LPok E base lp un c → ∀ (st : St) (K : X → St → Option ρ) (r : ρ), inlS E call ρ lp un bI d c st K = some r → ∃ (e : X) (st' : St), K e st' = some r ∧ CodeB E base c st e st'
  | 0, _, _, _, _, _, h => by cases h
  | d + 1, c, hlp, st, K, r, h => by
    unfold inlS at h
    cases hok : okCodeL c with
    | false => rw [hok] at h; cases h
    | true =>
      rw [hok] at h
      exact codeL_sim (fun c hc _ => unr_sim hmx hcall hnat hI d (.loop c) hc) hmx hcall hI hnat c hlp st K r h
/-- Bodies in the caller's heap. -/
noncomputable def inlN4 (E : Env) (call : (f : FuncId) → List SV → Option (RTup (rks E f))) (ρ : Type) : Nat → Nat → Code → TN → List Ob → HP → Nat → (X → TN → List Ob → HP → Nat → Option ρ) → Option ρ
  | 0 => fun _ _ _ _ _ _ _ => none
  | d + 1 => inlB E call ρ noLP [] (inlN4 E call ρ d) 1
noncomputable def inlS4 (E : Env) (call : (f : FuncId) → List SV → Option (RTup (rks E f))) (ρ : Type) : Nat → Code → St → (X → St → Option ρ) → Option ρ
  | 0 => fun _ _ _ => none
  | d + 1 => inlS E call ρ noLP [] (inlS4 E call ρ d) 1
theorem inl4_eq {E : Env} (hm : E.merge = true) (call : (f : FuncId) → List SV → Option (RTup (rks E f))) (ρ : Type) : ∀ (d : Nat), Agree (inlN4 E call ρ d) (inlS4 E call ρ d)
  | 0 => fun _ _ _ _ _ _ _ _ _ _ => rfl
  | d + 1 => inl_eq hm call ρ noLP [] (inl4_eq hm call ρ d) 1
theorem inl4_sim {E : Env} (hmx : E.P.follows .mixedOrders = true) {call : (f : FuncId) → List SV → Option (RTup (rks E f))} (hcall : ∀ f as r, call f as = some r → natPre E f as = true → FnOK E f as r) (hnat : ∀ f as r, natCall E f as = some r → FnOK E f as r)
    {ρ : Type} : ∀ (d : Nat) (c : Code) (st : St) (K : X → St → Option ρ) (r : ρ), inlS4 E call ρ d c st K = some r → CodeOK E c st K r
  | 0, _, _, _, _, h => by cases h
  | d + 1, c, st, K, r, h => by
    obtain ⟨e, st', h1, h2⟩ := unr_sim (base := st.heap) hmx hcall hnat (inl4_sim hmx hcall hnat d) 1 c noLP_ok st K r h
    obtain ⟨h3, h4⟩ := h2.to
    exact ⟨e, st', h1, h3, h4⟩

/-- Code, from a state that is given. -/
noncomputable def evL (E : Env) (lp : LP) (un : List Nat) (n : Nat) (ρ : Type) (N : Nat) (c : Code) (t : TN) (H : List Ob) (K : X → TN → List Ob → HP → Nat → Option ρ) : Option ρ :=
  codeML E (callE E n) (inlN4 E (callE E n) ρ 4) lp un (inlB E (callE E n) ρ lp un (inlN4 E (callE E n) ρ 4) 40) N c t H (Hp H) H.length K
theorem evL_sim {E : Env} (hmx : E.P.follows .mixedOrders = true) (hnat : NatOK E) (hm : E.merge = true) {base : List Ob} {lp : LP} {un : List Nat} {n : Nat} {ρ : Type} {c : Code} (hlp : LPok E base lp un c) (hok : okCodeL c = true) {N : Nat} {l : List AV} {t : TN} {H : List Ob} (h : AgN l t) (hN : l.length = N)
    {K' : X → TN → List Ob → HP → Nat → Option ρ} {K : X → St → Option ρ} (hK : ∀ (e : X) (l : List AV) (t : TN) (H : List Ob), AgN l t → l.length = N → K' e t H (Hp H) H.length = K e ⟨l, H⟩) {r : ρ} (he : evL E lp un n ρ N c t H K' = some r) :
    ∃ (e : X) (st' : St), K e st' = some r ∧ CodeB E base c ⟨l, H⟩ e st' := by
  unfold evL at he
  rw [codeML_eq E (callE E n) _ _ (inl4_eq hm (callE E n) ρ 4) (fun N c _ => inl_eq hm (callE E n) ρ lp un (inl4_eq hm (callE E n) ρ 4) 40 N c) hm lp N c hok l t H K' K h hN hK] at he
  exact codeL_sim (fun c hc _ => unr_sim hmx (callE_ok hmx hnat n) hnat.call (inl4_sim hmx (callE_ok hmx hnat n) hnat.call 4) 40 (.loop c) hc) hmx (callE_ok hmx hnat n) (inl4_sim hmx (callE_ok hmx hnat n) hnat.call 4) hnat.call c hlp _ _ _ he

/-- The results' cells, one after the other. -/
noncomputable def outCL {ρ : Type} (hp : HP) (used : List Nat) : (k : RK) → C → (k.T → List Nat → Option ρ) → Option ρ
  | .rd q, .p x, K => ob (q.dec x) fun t => K t used
  | .fr s, .own slot off len, K => ob (hp slot) fun o => (match o with | .arr s' false es => cond (Nat.beq s s' && !memN slot used) (cond (Nat.ble (off + len) es.length) (K ((es.drop off).take len) (slot :: used)) none) none | _ => none)
  | .fr _, .p (.v (.slice none 0 0)), K => K [] used
  | .rd (.list s), .own slot off len, K => ob (hp slot) fun o => (match o with | .arr s' _ es => cond (Nat.beq s s' && !memN slot used) (cond (Nat.ble (off + len) es.length) (K ((es.drop off).take len) (slot :: used)) none) none | _ => none)
  | _, _, _ => none
noncomputable def outCsL {ρ : Type} (hp : HP) (used : List Nat) : (ks : List RK) → List C → (RTup ks → Option ρ) → Option ρ
  | [], [], K => K ()
  | k :: ks, c :: cs, K => outCL hp used k c fun x used => outCsL hp used ks cs fun t => K (x, t)
  | _, _, _ => none
theorem memN_contains (i : Nat) : ∀ l : List Nat, memN i l = l.contains i
  | [] => rfl
  | j :: l => by
    unfold memN
    rw [List.contains_cons, memN_contains i l]
    have e : Nat.beq i j = (i == j) := by
      cases hb : Nat.beq i j with
      | true => have := Nat.eq_of_beq_eq_true hb; subst this; simp
      | false =>
        have : i ≠ j := fun e => by subst e; rw [Nat.beq_refl] at hb; cases hb
        simp [this]
    rw [e]
    cases (i == j) <;> rfl
theorem bmap {α β γ : Type} (o : Option α) (f : α → β) (K : β → Option γ) : (o.bind fun t => K (f t)) = (o.map f).bind K := by cases o <;> rfl
theorem outCL_eq {ρ : Type} (H : List Ob) (used : List Nat) (k : RK) (c : C) (K : k.T → List Nat → Option ρ) : outCL (Hp H) used k c K = (outC H used k c).bind fun x => K x.1 x.2 := by
  have key : ∀ (s s' slot off len : Nat) (es : List (List PC)) (K : List (List PC) → List Nat → Option ρ), cond (Nat.beq s s' && !memN slot used) (cond (Nat.ble (off + len) es.length) (K ((es.drop off).take len) (slot :: used)) none) none =
      (if s = s' ∧ off + len ≤ es.length ∧ !used.contains slot then some ((es.drop off).take len, slot :: used) else none).bind fun x => K x.1 x.2 := by
    intro s s' slot off len es K
    rw [memN_contains]
    by_cases h1 : s = s'
    · subst h1
      rw [Nat.beq_refl, Bool.true_and]
      cases h2 : used.contains slot with
      | true => rw [if_neg (by simp)]; rfl
      | false =>
        simp only [Bool.not_false, cond_true]
        rw [ble_if]
        by_cases h3 : off + len ≤ es.length
        · rw [if_pos h3, if_pos (by simp [h3])]; rfl
        · rw [if_neg h3, if_neg (fun h => h3 h.2.1)]; rfl
    · have : Nat.beq s s' = false := by
        cases hb : Nat.beq s s' with
        | false => rfl
        | true => exact absurd (Nat.eq_of_beq_eq_true hb) h1
      rw [this, if_neg (fun h => h1 h.1)]; rfl
  cases k with
  | rd q =>
    cases c with
    | p x =>
      have h1 : outCL (Hp H) used (.rd q) (.p x) K = ob (q.dec x) fun t => K t used := by cases q <;> rfl
      have h2 : outC H used (.rd q) (.p x) = (q.dec x).map fun t => (t, used) := by cases q <;> rfl
      rw [h1, h2, ob_eq]
      exact bmap (q.dec x) (fun t => (t, used)) (fun x => K x.1 x.2)
    | own slot off len =>
      cases q with
      | list s =>
        simp only [outCL, outC, ob_eq, Hp]
        cases H[slot]? with
        | none => rfl
        | some o => cases o with
          | arr s' fz es => exact key s s' slot off len es K
          | _ => rfl
      | _ => rfl
    | _ => cases q <;> rfl
  | fr s =>
    cases c with
    | own slot off len =>
      simp only [outCL, outC, ob_eq, Hp]
      cases H[slot]? with
      | none => rfl
      | some o => cases o with
        | arr s' fz es =>
          cases fz with
          | false => exact key s s' slot off len es K
          | true => rfl
        | _ => rfl
    | p x =>
      cases x with
      | v u => cases u with
        | slice A l c => cases A with
          | none => cases l with
            | zero => cases c <;> rfl
            | succ _ => rfl
          | some _ => rfl
        | _ => rfl
      | _ => rfl
    | _ => rfl
theorem outCsL_eq {ρ : Type} (H : List Ob) : ∀ (ks : List RK) (used : List Nat) (cs : List C) (K : RTup ks → Option ρ), outCsL (Hp H) used ks cs K = (outCs H used ks cs).bind K
  | [], _, [], K => rfl
  | [], _, _ :: _, K => rfl
  | _ :: _, _, [], K => rfl
  | k :: ks, used, c :: cs, K => by
    simp only [outCsL, outCs, outCL_eq]
    cases outC H used k c with
    | none => rfl
    | some x =>
      simp only [Option.bind_some, outCsL_eq H ks]
      cases outCs H x.2 ks cs <;> rfl

/-- A function whose loops' laws are known. -/
noncomputable def fnL (E : Env) (lp : LP) (un : List Nat) (n : Nat) (f : FuncId) (args : List SV) : Option (RTup (rks E f)) :=
  (E.P.funcs[f]?).bind fun fn => fn.body.bind fun c => evL E lp un n (RTup (rks E f)) (lenT fn args) c (initN args (lenT fn args)) [] fun e t _ hp _ => match e with
    | .exit _ => none
    | _ => resN E t hp fn.results.toList fn.resultTypes.toList fun vs => ob (cellsAll vs) fun cs => outCsL hp [] (rks E f) cs some
theorem fnL_sim {E : Env} (hmx : E.P.follows .mixedOrders = true) (hnat : NatOK E) (hm : E.merge = true) {lp : LP} {un : List Nat} {n : Nat} {f : FuncId} {args : List SV} (hlp : LPok E [] lp un (bodyOf E f)) (hok : okCodeL (bodyOf E f) = true) {r : RTup (rks E f)} (h : fnL E lp un n f args = some r) : FnOK E f args r := by
  unfold fnL at h
  simp only [Option.bind_eq_some_iff] at h
  obtain ⟨fn, hf, c, hb, h⟩ := h
  have hc : bodyOf E f = c := by unfold bodyOf; rw [hf]; simp [hb]
  rw [hc] at hok hlp
  refine fn_of_code hf hb ?_
  have := evL_sim hmx hnat hm hlp hok (initN_ag fn args []) (initT_len fn args []) (K := fun e st => match e with
        | .exit _ => none
        | _ => resVals E st fn.results.toList fn.resultTypes.toList fun vs => (cellsAll vs).bind fun cs => outCs st.heap [] (rks E f) cs) (fun e l t H h _ => ?_) h
  · obtain ⟨e, st', h1, h2⟩ := this
    have h3 : CodeTo E c (initSt fn args []) e st' := CodeB.to (st := initSt fn args []) h2
    exact ⟨e, st', h1, h3.1, h3.2⟩
  · have hr : (resN E t (Hp H) fn.results.toList fn.resultTypes.toList fun vs => ob (cellsAll vs) fun cs => outCsL (Hp H) [] (rks E f) cs some) = resVals E ⟨l, H⟩ fn.results.toList fn.resultTypes.toList fun vs => (cellsAll vs).bind fun cs => outCs H [] (rks E f) cs := by
      rw [resN_eq E h]; simp only [outCsL_eq, ob_eq, Option.bind_fun_some]
    cases e <;> first | rfl | exact hr
theorem lawL {E : Env} (hmx : E.P.follows .mixedOrders = true) (hnat : NatOK E) (hm : E.merge = true) {lp : LP} {un : List Nat} {n : Nat} {f : FuncId} {args : List SV} {cs : List PC} (hlp : LPok E [] lp un (bodyOf E f)) (hok : okCodeL (bodyOf E f) = true) (h : fnL E lp un n f args = decR (rks E f) cs) : Law E f args cs :=
  fun _ hr => fnL_sim hmx hnat hm hlp hok (h.trans hr)

/-- A round of a loop: the state is brought into the normal form. -/
noncomputable def afterL (b : Nat) (ks : List Keep) (fin : X → List Keep) (e : X) (t : TN) (hp : HP) (n : Nat) : Option (X × List (Nat × AV) × List Ob) :=
  (canon b (match e with | .normal => ks | e => fin e) (fun i => (t i).map NV.av) hp n).bind fun v => some (e, v.1, v.2)
noncomputable def roundL (E : Env) (lp : LP) (un : List Nat) (n : Nat) (b : Nat) (ks : List Keep) (fin : X → List Keep) (N : Nat) (c : Code) (kvs : List (Nat × AV)) (H : List Ob) : Option (X × List (Nat × AV) × List Ob) :=
  evL E lp un n _ N c (tnB N kvs) H fun e t _ hp m => afterL b ks fin e t hp m
theorem round_sim {E : Env} (hmx : E.P.follows .mixedOrders = true) (hnat : NatOK E) (hm : E.merge = true) {base : List Ob} {lp : LP} {un : List Nat} {n : Nat} {ks : List Keep} {fin : X → List Keep} {N : Nat} {c : Code} (hlp : LPok E base lp un c) (hok : okCodeL c = true) {kvs : List (Nat × AV)} {H : List Ob} {e : X} {kvs' : List (Nat × AV)} {H' : List Ob}
    (h : roundL E lp un n base.length ks fin N c kvs H = some (e, kvs', H')) : CodeB E base c ⟨build N kvs, H⟩ e ⟨build N kvs', H'⟩ := by
  unfold roundL at h
  obtain ⟨e1, st1, h1, h2⟩ := evL_sim hmx hnat hm hlp hok (tnB_ag N kvs) (build_length N kvs) (K := fun e st => (canon base.length (match e with | .normal => ks | e => fin e) (fun i => st.tmps[i]?) (fun i => st.heap[i]?) st.heap.length).bind fun v => some (e, v.1, v.2))
    (fun e l t H h _ => by
      unfold afterL
      have e1 : (fun i => (t i).map NV.av) = fun i => l[i]? := funext h
      have e2 : Hp H = fun i => H[i]? := rfl
      rw [e1, e2]) h
  simp only [Option.bind_eq_some_iff, Option.some.injEq, Prod.mk.injEq] at h1
  obtain ⟨v, hv, rfl, rfl, rfl⟩ := h1
  have := canon_less (G := E.G) hv
  have hl : st1.tmps.length = N := h2.1.trans (build_length N kvs)
  rw [hl] at this
  exact h2.less this

/-- What is known of one loop. -/
structure LoopD where
  α : Type
  β : Type
  ks : List Keep
  /-- the state at the loop's head -/
  kv : α → List (Nat × AV)
  hp : α → List Ob
  un : List (Nat × AV) → List Ob → Option α
  step : α → Tr (α ⊕ β)
  /-- how it is left -/
  out : β → Tr (X × List (Nat × AV) × List Ob)
noncomputable def LoopD.tr (d : LoopD) (b : Nat) (T : Nat → Option AV) (hp : Nat → Option Ob) (n : Nat) : Tr (X × List (Nat × AV) × List Ob) :=
  .opt _ (canon b d.ks T hp n) fun v => .opt _ (d.un v.1 v.2) fun x => .opt _ (loopT d.step x) d.out
structure LoopD.OK (d : LoopD) (E : Env) (base : List Ob) (N : Nat) (c : Code) : Prop where
  un : ∀ kvs H x, d.un kvs H = some x → kvs = d.kv x ∧ H = d.hp x
  out : ∀ b, ∃ v, (d.out b).val = some v ∧ v.1 ≠ .normal
  round : ∀ x v, (d.step x).val = some v → match v with
    | .inl x' => CodeB E base c ⟨build N (d.kv x), d.hp x⟩ .normal ⟨build N (d.kv x'), d.hp x'⟩
    | .inr b => ∀ r, (d.out b).val = some r → CodeB E base c ⟨build N (d.kv x), d.hp x⟩ r.1 ⟨build N r.2.1, r.2.2⟩
theorem LoopD.law {d : LoopD} {E : Env} {base : List Ob} {N : Nat} {c : Code} (h : d.OK E base N c) {l : List AV} {H : List Ob} (hN : l.length = N) {v : X × List (Nat × AV) × List Ob}
    (hv : (d.tr base.length (fun i => l[i]?) (fun i => H[i]?) H.length).val = some v) : CodeB E base (.loop c) ⟨l, H⟩ v.1 ⟨build N v.2.1, v.2.2⟩ := by
  unfold LoopD.tr at hv
  simp only [Tr.val_opt, Option.bind_eq_some_iff] at hv
  obtain ⟨⟨kvs, H1⟩, h1, x, hx, b, hb, hv⟩ := hv
  obtain ⟨rfl, rfl⟩ := h.un kvs H1 x hx
  have hl := canon_less (G := E.G) h1
  rw [hN] at hl
  let F : d.β → X × St := fun b => ((h.out b).choose.1, ⟨build N (h.out b).choose.2.1, (h.out b).choose.2.2⟩)
  have hF : ∀ b, (d.out b).val = some (h.out b).choose ∧ (h.out b).choose.1 ≠ .normal := fun b => (h.out b).choose_spec
  have key := loop_law (E := E) (base := base) (c := c) (fun x => (⟨build N (d.kv x), d.hp x⟩ : St)) F d.step (fun b => (hF b).2) (fun x v hv => by
    have := h.round x v hv
    cases v with
    | inl x' => exact this
    | inr b => exact this _ (hF b).1) x b hb
  have e : (h.out b).choose = v := Option.some.inj ((hF b).1.symm.trans hv)
  have e' : F b = (v.1, ⟨build N v.2.1, v.2.2⟩) := by simp only [F]; rw [e]
  rw [e'] at key
  exact CodeB.from hl key
end Go.Ev

namespace Go.Ev
open Go
set_option maxRecDepth 100000

/-- What is open. -/
inductive HT where
  | int | bool | str | nat | lst | pc
  deriving Inhabited
inductive HV where
  | int (n : Int)
  | bool (b : Bool)
  | str (s : ByteArray)
  | nat (n : Nat)
  | lst (es : List (List PC))
  | pc (c : PC)
  deriving Inhabited
abbrev HT.T : HT → Type
  | .int => Int
  | .bool => Bool
  | .str => ByteArray
  | .nat => Nat
  | .lst => List (List PC)
  | .pc => PC
abbrev HTup : List HT → Type
  | [] => Unit
  | h :: hs => h.T × HTup hs
def HT.d : (h : HT) → h.T
  | .int => (0 : Int)
  | .bool => false
  | .str => ByteArray.empty
  | .nat => (0 : Nat)
  | .lst => []
  | .pc => .v (.bool false)
def HTup.d : (hs : List HT) → HTup hs
  | [] => ()
  | h :: hs => (h.d, HTup.d hs)
def HT.v : (h : HT) → h.T → HV
  | .int, n => .int n
  | .bool, n => .bool n
  | .str, n => .str n
  | .nat, n => .nat n
  | .lst, n => .lst n
  | .pc, n => .pc n
def HT.of : (h : HT) → HV → Option h.T
  | .int, .int n => some n
  | .bool, .bool n => some n
  | .str, .str n => some n
  | .nat, .nat n => some n
  | .lst, .lst n => some n
  | .pc, .pc n => some n
  | _, _ => none
def ofT : (hs : List HT) → HTup hs → List HV
  | [], _ => []
  | h :: hs, x => h.v x.1 :: ofT hs x.2
def toT : (hs : List HT) → List HV → Option (HTup hs)
  | [], [] => some ()
  | h :: hs, v :: vs => (h.of v).bind fun a => (toT hs vs).map fun b => (a, b)
  | _, _ => none
theorem HT.of_v {h : HT} {v : HV} {x : h.T} (e : h.of v = some x) : v = h.v x := by
  cases h <;> cases v <;> cases e <;> rfl
theorem toT_ofT : ∀ {hs : List HT} {l : List HV} {x : HTup hs}, toT hs l = some x → l = ofT hs x
  | [], [], _, _ => rfl
  | [], _ :: _, _, h => by cases h
  | _ :: _, [], _, h => by cases h
  | h :: hs, v :: vs, x, e => by
    simp only [toT, Option.bind_eq_some_iff, Option.map_eq_some_iff] at e
    obtain ⟨a, ha, b, hb, rfl⟩ := e
    simp only [ofT]
    rw [← HT.of_v ha, ← toT_ofT hb]

/-- Shapes of cells that are read alone. -/
inductive PS where
  | int (k : IntKind)
  | bool
  | str
  | sl (s : Nat)
  | slt (s : Nat)
  | any
  | nil
  | nilp
  deriving Inhabited
/-- Shapes of cells. -/
inductive CS where
  | p (x : PS)
  | own (j off : Nat)
  | bp (j off : Nat)
  | clo (f : FuncId) (caps : List CS)
  deriving Inhabited
inductive SS where
  | dead
  | one (c : CS)
  | agg (cs : List CS)
  | pagg (cs : List PS)
  deriving Inhabited
inductive OS where
  | void
  | dead
  | box (s : Nat) (cs : List CS)
  | arr (s : Nat) (fz : Bool)
  deriving Inhabited

/-! ### From what is open to the values -/
def PS.mk : PS → List HV → PC × List HV
  | .int k, .int n :: r => (.v (.int k n), r)
  | .bool, .bool b :: r => (.v (.bool b), r)
  | .str, .str b :: r => (.v (.string b), r)
  | .sl s, .lst es :: r => (.sl s false es, r)
  | .slt s, .lst es :: r => (.sl s true es, r)
  | .any, .pc c :: r => (c, r)
  | .nil, r => (.v (.slice none 0 0), r)
  | .nilp, r => (.v (.pointer none), r)
  | _, r => (.v (.bool false), r)
def mkPs : List PS → List HV → List PC × List HV
  | [], r => ([], r)
  | s :: l, r => ((s.mk r).1 :: (mkPs l (s.mk r).2).1, (mkPs l (s.mk r).2).2)
mutual
def CS.mk : CS → List HV → C × List HV
  | .p s, r => (.p (s.mk r).1, (s.mk r).2)
  | .own j off, r => match r with | .nat n :: r => (.own j off n, r) | r => (.own j off 0, r)
  | .bp j off, r => (.bp j off, r)
  | .clo f caps, r => (.clo f (mkCs caps r).1, (mkCs caps r).2)
def mkCs : List CS → List HV → List C × List HV
  | [], r => ([], r)
  | s :: l, r => ((s.mk r).1 :: (mkCs l (s.mk r).2).1, (mkCs l (s.mk r).2).2)
end
def SS.mk : SS → List HV → SV × List HV
  | .dead, r => (.dead, r)
  | .one c, r => (.one (c.mk r).1, (c.mk r).2)
  | .agg cs, r => (.agg (mkCs cs r).1, (mkCs cs r).2)
  | .pagg cs, r => (.pagg (mkPs cs r).1, (mkPs cs r).2)
def mkSs : List SS → List HV → List SV × List HV
  | [], r => ([], r)
  | s :: l, r => ((s.mk r).1 :: (mkSs l (s.mk r).2).1, (mkSs l (s.mk r).2).2)
def OS.mk : OS → List HV → Ob × List HV
  | .void, r => (.void, r)
  | .dead, r => (.dead, r)
  | .box s cs, r => (.box s (mkCs cs r).1, (mkCs cs r).2)
  | .arr s fz, r => match r with | .lst es :: r => (.arr s fz es, r) | r => (.arr s fz [], r)
def mkOs : List OS → List HV → List Ob × List HV
  | [], r => ([], r)
  | s :: l, r => ((s.mk r).1 :: (mkOs l (s.mk r).2).1, (mkOs l (s.mk r).2).2)

/-! ### And back -/
noncomputable def PS.un : PS → PC → Option (List HV)
  | .int k, .v (.int k' n) => cond (ikEq k' k) (some [.int n]) none
  | .bool, .v (.bool b) => some [.bool b]
  | .str, .v (.string b) => some [.str b]
  | .sl s, .sl s' nn es => cond (Nat.beq s' s && !nn) (some [.lst es]) none
  | .slt s, .sl s' nn es => cond (Nat.beq s' s && nn) (some [.lst es]) none
  | .any, c => some [.pc c]
  | .nil, .v (.slice none 0 0) => some []
  | .nilp, .v (.pointer none) => some []
  | _, _ => none
noncomputable def unPs : List PS → List PC → Option (List HV)
  | [], [] => some []
  | s :: l, x :: r => (s.un x).bind fun a => (unPs l r).map fun b => a ++ b
  | _, _ => none
mutual
noncomputable def CS.un : CS → C → Option (List HV)
  | .p s, c => match c with | .p x => s.un x | _ => none
  | .own j off, c => match c with | .own j' off' n => cond (Nat.beq j' j && Nat.beq off' off) (some [.nat n]) none | _ => none
  | .bp j off, c => match c with | .bp j' off' => cond (Nat.beq j' j && Nat.beq off' off) (some []) none | _ => none
  | .clo f caps, c => match c with | .clo f' cs => cond (Nat.beq f' f) (unCs caps cs) none | _ => none
noncomputable def unCs : List CS → List C → Option (List HV)
  | [], c => match c with | [] => some [] | _ => none
  | s :: l, c => match c with | x :: r => (s.un x).bind fun a => (unCs l r).map fun b => a ++ b | _ => none
end
noncomputable def SS.un : SS → SV → Option (List HV)
  | .one s, .one x => s.un x
  | .agg l, .agg cs => unCs l cs
  | .pagg l, .pagg cs => unPs l cs
  | _, _ => none
noncomputable def unSs : List SS → List SV → Option (List HV)
  | [], [] => some []
  | s :: l, x :: r => (s.un x).bind fun a => (unSs l r).map fun b => a ++ b
  | _, _ => none
noncomputable def OS.un : OS → Ob → Option (List HV)
  | .void, .void => some []
  | .dead, .dead => some []
  | .box s l, .box s' cs => cond (Nat.beq s' s) (unCs l cs) none
  | .arr s fz, .arr s' fz' es => cond (Nat.beq s' s && (fz' == fz)) (some [.lst es]) none
  | _, _ => none
noncomputable def unOs : List OS → List Ob → Option (List HV)
  | [], [] => some []
  | s :: l, x :: r => (s.un x).bind fun a => (unOs l r).map fun b => a ++ b
  | _, _ => none

theorem beq2 {a b c d : Nat} (h : (Nat.beq a b && Nat.beq c d) = true) : a = b ∧ c = d := by
  obtain ⟨h1, h2⟩ := (Bool.and_eq_true _ _).mp h
  exact ⟨Nat.eq_of_beq_eq_true h1, Nat.eq_of_beq_eq_true h2⟩
theorem cond_some {α : Type} {b : Bool} {x : Option α} {y : α} (h : cond b x none = some y) : b = true ∧ x = some y := by cases b with | true => exact ⟨rfl, h⟩ | false => cases h
theorem PS.un_mk {s : PS} {c : PC} {x : List HV} (h : s.un c = some x) (r : List HV) : s.mk (x ++ r) = (c, r) := by
  unfold PS.un at h
  split at h
  · obtain ⟨h1, h2⟩ := cond_some h
    rw [ikEq_eq, decide_eq_true_eq] at h1
    subst h1
    cases h2; rfl
  · cases h; rfl
  · cases h; rfl
  · obtain ⟨h1, h2⟩ := cond_some h
    obtain ⟨h3, h4⟩ := (Bool.and_eq_true _ _).mp h1
    have := Nat.eq_of_beq_eq_true h3
    subst this
    simp only [Bool.not_eq_true'] at h4
    subst h4
    cases h2; rfl
  · obtain ⟨h1, h2⟩ := cond_some h
    obtain ⟨h3, h4⟩ := (Bool.and_eq_true _ _).mp h1
    have := Nat.eq_of_beq_eq_true h3
    subst this
    subst h4
    cases h2; rfl
  · cases h; rfl
  · cases h; rfl
  · cases h; rfl
  · cases h
theorem unPs_mk : ∀ {l : List PS} {cs : List PC} {x : List HV}, unPs l cs = some x → ∀ r, mkPs l (x ++ r) = (cs, r)
  | [], [], x, h, r => by cases h; rfl
  | [], _ :: _, x, h, r => by cases h
  | _ :: _, [], x, h, r => by cases h
  | s :: l, c :: cs, x, h, r => by
    simp only [unPs, Option.bind_eq_some_iff, Option.map_eq_some_iff] at h
    obtain ⟨a, ha, b, hb, rfl⟩ := h
    simp only [mkPs, List.append_assoc, PS.un_mk ha, unPs_mk hb]
mutual
theorem CS.un_mk : ∀ {s : CS} {c : C} {x : List HV}, s.un c = some x → ∀ r, s.mk (x ++ r) = (c, r)
  | .p s, c, x, h, r => by
    cases c with
    | p y => simp only [CS.un] at h; simp only [CS.mk, PS.un_mk h]
    | _ => simp [CS.un] at h
  | .own j off, c, x, h, r => by
    cases c with
    | own j' off' n =>
      simp only [CS.un] at h
      obtain ⟨h1, h2⟩ := cond_some h
      obtain ⟨rfl, rfl⟩ := beq2 h1
      cases h2; rfl
    | _ => simp [CS.un] at h
  | .bp j off, c, x, h, r => by
    cases c with
    | bp j' off' =>
      simp only [CS.un] at h
      obtain ⟨h1, h2⟩ := cond_some h
      obtain ⟨rfl, rfl⟩ := beq2 h1
      cases h2; rfl
    | _ => simp [CS.un] at h
  | .clo f caps, c, x, h, r => by
    cases c with
    | clo f' cs =>
      simp only [CS.un] at h
      obtain ⟨h1, h2⟩ := cond_some h
      have := Nat.eq_of_beq_eq_true h1
      subst this
      simp only [CS.mk, unCs_mk h2]
    | _ => simp [CS.un] at h
theorem unCs_mk : ∀ {l : List CS} {cs : List C} {x : List HV}, unCs l cs = some x → ∀ r, mkCs l (x ++ r) = (cs, r)
  | [], cs, x, h, r => by
    cases cs with
    | nil => simp only [unCs, Option.some.injEq] at h; subst h; rfl
    | cons _ _ => simp [unCs] at h
  | s :: l, cs, x, h, r => by
    cases cs with
    | nil => simp [unCs] at h
    | cons c cs =>
      simp only [unCs, Option.bind_eq_some_iff, Option.map_eq_some_iff] at h
      obtain ⟨a, ha, b, hb, rfl⟩ := h
      simp only [mkCs, List.append_assoc, CS.un_mk ha, unCs_mk hb]
end
theorem SS.un_mk {s : SS} {c : SV} {x : List HV} (h : s.un c = some x) (r : List HV) : s.mk (x ++ r) = (c, r) := by
  unfold SS.un at h
  split at h
  · simp only [SS.mk, CS.un_mk h]
  · simp only [SS.mk, unCs_mk h]
  · simp only [SS.mk, unPs_mk h]
  · cases h
theorem unSs_mk : ∀ {l : List SS} {cs : List SV} {x : List HV}, unSs l cs = some x → ∀ r, mkSs l (x ++ r) = (cs, r)
  | [], [], x, h, r => by cases h; rfl
  | [], _ :: _, x, h, r => by cases h
  | _ :: _, [], x, h, r => by cases h
  | s :: l, c :: cs, x, h, r => by
    simp only [unSs, Option.bind_eq_some_iff, Option.map_eq_some_iff] at h
    obtain ⟨a, ha, b, hb, rfl⟩ := h
    simp only [mkSs, List.append_assoc, SS.un_mk ha, unSs_mk hb]
theorem OS.un_mk {s : OS} {c : Ob} {x : List HV} (h : s.un c = some x) (r : List HV) : s.mk (x ++ r) = (c, r) := by
  unfold OS.un at h
  split at h
  · cases h; rfl
  · cases h; rfl
  · obtain ⟨h1, h2⟩ := cond_some h
    have := Nat.eq_of_beq_eq_true h1
    subst this
    simp only [OS.mk, unCs_mk h2]
  · obtain ⟨h1, h2⟩ := cond_some h
    obtain ⟨h3, h4⟩ := (Bool.and_eq_true _ _).mp h1
    have := Nat.eq_of_beq_eq_true h3
    subst this
    rw [beq_iff_eq] at h4
    subst h4
    cases h2; rfl
  · cases h
theorem unOs_mk : ∀ {l : List OS} {cs : List Ob} {x : List HV}, unOs l cs = some x → ∀ r, mkOs l (x ++ r) = (cs, r)
  | [], [], x, h, r => by cases h; rfl
  | [], _ :: _, x, h, r => by cases h
  | _ :: _, [], x, h, r => by cases h
  | s :: l, c :: cs, x, h, r => by
    simp only [unOs, Option.bind_eq_some_iff, Option.map_eq_some_iff] at h
    obtain ⟨a, ha, b, hb, rfl⟩ := h
    simp only [mkOs, List.append_assoc, OS.un_mk ha, unOs_mk hb]

/-! ### Loops -/
/-- A shape of a state: temporaries that are kept; objects; what is open. -/
structure Shape where
  ks : List Keep
  ss : List SS
  os : List OS
  hs : List HT
abbrev Shape.T (s : Shape) : Type := HTup s.hs
def zipK : List Keep → List SV → List (Nat × AV)
  | k :: ks, v :: vs => (k.at, .s v) :: zipK ks vs
  | _, _ => []
def Shape.kv (s : Shape) (x : s.T) : List (Nat × AV) := zipK s.ks (mkSs s.ss (ofT s.hs x)).1
def Shape.hp (s : Shape) (x : s.T) : List Ob := (mkOs s.os (mkSs s.ss (ofT s.hs x)).2).1
noncomputable def svsOf : List (Nat × AV) → Option (List SV)
  | [] => some []
  | (_, .s v) :: l => (svsOf l).map fun r => v :: r
  | _ => none
noncomputable def Shape.un (s : Shape) (kvs : List (Nat × AV)) (H : List Ob) : Option s.T :=
  (svsOf kvs).bind fun vs => (unSs s.ss vs).bind fun a => (unOs s.os H).bind fun b => toT s.hs (a ++ b)
theorem renT_keys {mv : List Nat} {T : Nat → Option AV} : ∀ {l : List Nat} {kvs : List (Nat × AV)}, renT mv T l = some kvs → kvs.map (·.1) = l
  | [], _, h => by cases h; rfl
  | i :: l, _, h => by
    simp only [renT, Option.bind_eq_some_iff, Option.map_eq_some_iff] at h
    obtain ⟨v, hv, v', hv', r, hr, rfl⟩ := h
    simp [renT_keys hr]
theorem canon_keys {b : Nat} {ks : List Keep} {T : Nat → Option AV} {hp : Nat → Option Ob} {n : Nat} {kvs : List (Nat × AV)} {H : List Ob} (h : canon b ks T hp n = some (kvs, H)) : kvs.map (·.1) = ks.map Keep.at := by
  unfold canon at h
  simp only at h
  obtain ⟨_, h⟩ := cond_some h
  simp only [Option.bind_eq_some_iff, Option.map_eq_some_iff, Prod.mk.injEq] at h
  obtain ⟨kvs', e1, H2, e2, rfl, rfl⟩ := h
  exact renT_keys e1
theorem svsOf_zip : ∀ {ks : List Keep} {kvs : List (Nat × AV)} {vs : List SV}, kvs.map (·.1) = ks.map Keep.at → svsOf kvs = some vs → kvs = zipK ks vs
  | [], [], vs, _, h => by cases h; rfl
  | [], _ :: _, _, h, _ => by simp at h
  | _ :: _, [], _, h, _ => by simp at h
  | k :: ks, (i, v) :: kvs, vs, hk, h => by
    cases v with
    | s v =>
      simp only [svsOf, Option.map_eq_some_iff] at h
      obtain ⟨r, hr, rfl⟩ := h
      simp only [List.map_cons, List.cons.injEq] at hk
      simp only [zipK]
      rw [← svsOf_zip hk.2 hr, ← hk.1]
    | _ => cases h
theorem Shape.un_ok {s : Shape} {kvs : List (Nat × AV)} {H : List Ob} {x : s.T} (hk : kvs.map (·.1) = s.ks.map Keep.at) (h : s.un kvs H = some x) : kvs = s.kv x ∧ H = s.hp x := by
  unfold Shape.un at h
  simp only [Option.bind_eq_some_iff] at h
  obtain ⟨vs, h1, a, h2, b, h3, h4⟩ := h
  have e := toT_ofT h4
  have e1 : mkSs s.ss (ofT s.hs x) = (vs, b) := by rw [← e]; exact unSs_mk h2 b
  have e2 : mkOs s.os b = (H, []) := by simpa using unOs_mk h3 []
  unfold Shape.kv Shape.hp
  rw [e1, e2]
  exact ⟨svsOf_zip hk h1, rfl⟩

/-- How a loop is left: the exit, the shape behind it; several ways one after the other. -/
structure Way where
  e : X
  s : Shape
abbrev Outs : List Way → Type
  | [] => Empty
  | w :: ws => w.s.T ⊕ Outs ws
def outV : (ws : List Way) → Outs ws → X × List (Nat × AV) × List Ob
  | [], x => x.elim
  | w :: ws, x => match x with | .inl y => (w.e, w.s.kv y, w.s.hp y) | .inr y => outV ws y
noncomputable def outT : (ws : List Way) → Outs ws → Tr (X × List (Nat × AV) × List Ob)
  | [], _ => .fail
  | w :: ws, x => .sum _ _ x (fun y => .ret (w.e, w.s.kv y, w.s.hp y)) (fun y => outT ws y)
theorem outT_val : ∀ (ws : List Way) (x : Outs ws), (outT ws x).val = some (outV ws x)
  | [], x => x.elim
  | w :: ws, .inl y => rfl
  | w :: ws, .inr y => by show (outT ws y).val = _; rw [outT_val ws y]; rfl
def notNormal : X → Bool | .normal => false | _ => true
theorem outV_ne : ∀ (ws : List Way) (x : Outs ws), ws.all (fun w => notNormal w.e) = true → (outV ws x).1 ≠ .normal
  | [], x, _ => x.elim
  | w :: ws, .inl y, h => by
    simp only [List.all_cons, Bool.and_eq_true] at h
    intro e
    have e' : w.e = .normal := e
    rw [e'] at h; cases h.1
  | w :: ws, .inr y, h => by
    simp only [List.all_cons, Bool.and_eq_true] at h
    exact outV_ne ws y h.2

/-- A loop, told by shapes. -/
structure LoopS where
  N : Nat
  at_ : Shape
  outs : List Way
  fin : X → List Keep
  step : at_.T → Tr (at_.T ⊕ Outs outs)
noncomputable def LoopS.d (s : LoopS) : LoopD where
  α := s.at_.T
  β := Outs s.outs
  ks := s.at_.ks
  kv := s.at_.kv
  hp := s.at_.hp
  un := s.at_.un
  step := s.step
  out := outT s.outs
noncomputable def LoopS.res (s : LoopS) (v : s.at_.T ⊕ Outs s.outs) : Option (X × List (Nat × AV) × List Ob) := match v with
  | .inl x => some (.normal, s.at_.kv x, s.at_.hp x)
  | .inr b => some (outV s.outs b)
/-- What is shown of a loop's round. -/
def LoopS.Round (s : LoopS) (E : Env) (lp : LP) (un : List Nat) (n b : Nat) (c : Code) : Prop := ∀ x : s.at_.T, roundL E lp un n b s.at_.ks s.fin s.N c (s.at_.kv x) (s.at_.hp x) = (s.step x).run s.res
theorem LoopS.law {s : LoopS} {E : Env} (hmx : E.P.follows .mixedOrders = true) (hnat : NatOK E) (hm : E.merge = true) {base : List Ob} {lp : LP} {un : List Nat} {n : Nat} {c : Code} (hlp : LPok E base lp un c) (hok : okCodeL c = true) (hn : s.outs.all (fun w => notNormal w.e) = true)
    (h : s.Round E lp un n base.length c) {l : List AV} {H : List Ob} (hN : l.length = s.N) {v : X × List (Nat × AV) × List Ob} (hv : (s.d.tr base.length (fun i => l[i]?) (fun i => H[i]?) H.length).val = some v) : CodeB E base (.loop c) ⟨l, H⟩ v.1 ⟨build s.N v.2.1, v.2.2⟩ := by
  unfold LoopD.tr at hv
  simp only [Tr.val_opt, Option.bind_eq_some_iff] at hv
  obtain ⟨⟨kvs, H1⟩, h1, x, hx, b, hb, hv⟩ := hv
  have hx' : s.at_.un kvs H1 = some x := hx
  obtain ⟨rfl, rfl⟩ := Shape.un_ok (canon_keys h1) hx'
  have hl := canon_less (G := E.G) h1
  rw [hN] at hl
  have hv' := (outT_val s.outs b).symm.trans hv
  obtain rfl := Option.some.inj hv'
  have key := loop_law (E := E) (base := base) (c := c) (fun x => (⟨build s.N (s.at_.kv x), s.at_.hp x⟩ : St)) (fun b => ((outV s.outs b).1, (⟨build s.N (outV s.outs b).2.1, (outV s.outs b).2.2⟩ : St))) s.step (fun b => outV_ne _ b hn) (fun x v hv => by
    have hr := h x
    rw [Tr.run_val, hv] at hr
    cases v with
    | inl x' => exact round_sim hmx hnat hm hlp hok hr
    | inr b => exact round_sim hmx hnat hm hlp hok hr) x b hb
  exact CodeB.from hl key

/-- The frame's length. -/
def lenOK (T : Nat → Option AV) (N : Nat) : Bool := (T N).isNone && (T (N - 1)).isSome
theorem lenOK_len {l : List AV} {N : Nat} (h : lenOK (fun i => l[i]?) N = true) : l.length = N := by
  unfold lenOK at h
  obtain ⟨h1, h2⟩ := (Bool.and_eq_true _ _).mp h
  simp only at h1 h2
  have h3 : l.length ≤ N := by
    rcases Nat.lt_or_ge N l.length with hl | hl
    · rw [List.getElem?_eq_getElem hl] at h1; cases h1
    · exact hl
  have h4 : N - 1 < l.length := by
    rcases Nat.lt_or_ge (N - 1) l.length with hl | hl
    · exact hl
    · rw [List.getElem?_eq_none hl] at h2; cases h2
  omega
/-- What is known of the loops of a function, by their keys. -/
noncomputable def lpOf (b : Nat) : List (Nat × LoopS) → LP
  | [], _, _, _, _ => .fail
  | (k, s) :: l, key, T, hp, n => cond (Nat.beq key k) (cond (lenOK T s.N) (s.d.tr b T hp n) .fail) (lpOf b l key T hp n)
def lookL (key : Nat) : List (Nat × LoopS) → Option LoopS
  | [] => none
  | (k, s) :: l => cond (Nat.beq key k) (some s) (lookL key l)
/-- The law of one loop. -/
def LoopS.OK (s : LoopS) (E : Env) (base : List Ob) (c : Code) : Prop := ∀ (l : List AV) (H : List Ob) (v : X × List (Nat × AV) × List Ob), l.length = s.N → (s.d.tr base.length (fun i => l[i]?) (fun i => H[i]?) H.length).val = some v → CodeB E base (.loop c) ⟨l, H⟩ v.1 ⟨build s.N v.2.1, v.2.2⟩
def LPs (E : Env) (base : List Ob) (tab : List (Nat × LoopS)) : List Code → Prop
  | [] => True
  | c :: cs => (∀ s, lookL (loopKey c) tab = some s → s.OK E base c) ∧ LPs E base tab cs
theorem lpOf_val {b : Nat} {key : Nat} {T : Nat → Option AV} {hp : Nat → Option Ob} {n : Nat} {v : X × List (Nat × AV) × List Ob} : ∀ {tab : List (Nat × LoopS)}, (lpOf b tab key T hp n).val = some v → ∃ s, lookL key tab = some s ∧ lenOK T s.N = true ∧ (s.d.tr b T hp n).val = some v
  | [], h => by cases h
  | (k, s) :: l, h => by
    unfold lpOf at h
    unfold lookL
    cases hb : Nat.beq key k with
    | true =>
      rw [hb] at h
      cases hl : lenOK T s.N with
      | false => rw [hl] at h; cases h
      | true => rw [hl] at h; exact ⟨s, rfl, hl, h⟩
    | false => rw [hb] at h; exact lpOf_val (tab := l) h
theorem LPs.mem {E : Env} {base : List Ob} {tab : List (Nat × LoopS)} : ∀ {l : List Code}, LPs E base tab l → ∀ c ∈ l, ∀ s, lookL (loopKey c) tab = some s → s.OK E base c
  | [], _, c, hc => by cases hc
  | x :: l, h, c, hc => by
    rcases List.mem_cons.1 hc with rfl | hc
    · exact h.1
    · exact h.2.mem c hc
theorem LPs.ok {E : Env} {base : List Ob} {tab : List (Nat × LoopS)} {un : List Nat} {c : Code} (h : LPs E base tab (loopsU un c)) : LPok E base (lpOf base.length tab) un c := by
  intro c' hc' l H v hv
  obtain ⟨s, h1, h2, h3⟩ := lpOf_val hv
  have hN := lenOK_len h2
  have := h.mem c' hc' s h1 l H v hN h3
  rw [hN]
  exact this

/-! ### Functions -/
def Env.withN (E : Env) (nat : FuncId → List SV → Option (Option Bool × List PC)) : Env := { E with nat := nat }
/-- The laws that are known, one after the other. -/
abbrev Tab := List (FuncId × (List SV → Option (Option Bool × List PC)))
noncomputable def natT : Tab → FuncId → List SV → Option (Option Bool × List PC)
  | [], _, _ => none
  | (g, h) :: l, f, args => cond (Nat.beq f g) (@Option.rec _ (fun _ => Option (Option Bool × List PC)) (natT l f args) some (h args)) (natT l f args)
/-- An entry's law. -/
def EntOK (E : Env) (e : FuncId × (List SV → Option (Option Bool × List PC))) : Prop := ∀ args c cs, e.2 args = some (c, cs) → c.getD true = true → Law E e.1 args cs
def TabOK (E : Env) : Tab → Prop
  | [] => True
  | e :: l => EntOK E e ∧ TabOK E l
theorem TabOK.nat {E : Env} {tab : Tab} (h : TabOK E tab) : NatOK (E.withN (natT tab)) := by
  refine NatOK.of fun f ag c cs h0 hpre => ?_
  have h0' : natT tab f ag = some (c, cs) := h0
  have hc : c.getD true = true := by
    have e : natPre (E.withN (natT tab)) f ag = (match natT tab f ag with | some (some c, _) => c | _ => true) := rfl
    rw [e, h0'] at hpre
    cases c with
    | none => rfl
    | some b => exact hpre
  have key : ∀ (tab : Tab), TabOK E tab → natT tab f ag = some (c, cs) → Law E f ag cs := by
    intro tab
    induction tab with
    | nil => intro _ h; cases h
    | cons e l ih =>
      intro ht h
      obtain ⟨g, q⟩ := e
      unfold natT at h
      cases hb : Nat.beq f g with
      | true =>
        rw [hb] at h
        have := Nat.eq_of_beq_eq_true hb
        subst this
        cases hq : q ag with
        | none => rw [hq] at h; exact ih ht.2 h
        | some y => rw [hq] at h; exact ht.1 ag c cs (hq.trans h) hc
      | false => rw [hb] at h; exact ih ht.2 h
  exact key tab h h0'

/-- A function, told by shapes: where 'val' answers, the call does. -/
structure FnS where
  f : FuncId
  ss : List SS
  hs : List HT
  rs : List PS
  ro : List HT
  val : HTup hs → Option (HTup ro)
def FnS.args (s : FnS) (x : HTup s.hs) : List SV := (mkSs s.ss (ofT s.hs x)).1
def FnS.cells (s : FnS) (r : HTup s.ro) : List PC := (mkPs s.rs (ofT s.ro r)).1
noncomputable def FnS.ent (s : FnS) : FuncId × (List SV → Option (Option Bool × List PC)) :=
  (s.f, fun args => (unSs s.ss args).bind fun l => (toT s.hs l).bind fun x => some (some (s.val x).isSome, s.cells ((s.val x).getD (HTup.d s.ro))))
def FnS.OK (s : FnS) (E : Env) : Prop := ∀ x r, s.val x = some r → Law E s.f (s.args x) (s.cells r)
theorem un_args {ss : List SS} {hs : List HT} {args : List SV} {l : List HV} {x : HTup hs} (h1 : unSs ss args = some l) (h2 : toT hs l = some x) : args = (mkSs ss (ofT hs x)).1 := by
  rw [← toT_ofT h2]
  have := unSs_mk h1 []
  rw [List.append_nil] at this
  rw [this]
theorem FnS.OK.ent {s : FnS} {E : Env} (h : s.OK E) : EntOK E s.ent := by
  intro args c cs he hc
  simp only [FnS.ent, Option.bind_eq_some_iff, Option.some.injEq, Prod.mk.injEq] at he
  obtain ⟨l, h1, x, h2, rfl, rfl⟩ := he
  obtain ⟨r, hr⟩ := Option.isSome_iff_exists.1 hc
  rw [hr, un_args h1 h2]
  exact h x r hr
/-- The same, where it is known what is answered: under a condition, or always. -/
structure FnP where
  f : FuncId
  ss : List SS
  hs : List HT
  rs : List PS
  ro : List HT
  pre : HTup hs → Option Bool
  res : HTup hs → HTup ro
def FnP.args (s : FnP) (x : HTup s.hs) : List SV := (mkSs s.ss (ofT s.hs x)).1
def FnP.cells (s : FnP) (r : HTup s.ro) : List PC := (mkPs s.rs (ofT s.ro r)).1
noncomputable def FnP.ent (s : FnP) : FuncId × (List SV → Option (Option Bool × List PC)) :=
  (s.f, fun args => (unSs s.ss args).bind fun l => (toT s.hs l).bind fun x => some (s.pre x, s.cells (s.res x)))
def FnP.OK (s : FnP) (E : Env) : Prop := ∀ x, (s.pre x).getD true = true → Law E s.f (s.args x) (s.cells (s.res x))
theorem FnP.OK.ent {s : FnP} {E : Env} (h : s.OK E) : EntOK E s.ent := by
  intro args c cs he hc
  simp only [FnP.ent, Option.bind_eq_some_iff, Option.some.injEq, Prod.mk.injEq] at he
  obtain ⟨l, h1, x, h2, rfl, rfl⟩ := he
  rw [un_args h1 h2]
  exact h x hc
theorem FnS.OK.total {s : FnS} {E : Env} (h : s.OK E) (pre : HTup s.hs → Option Bool) (res : HTup s.hs → HTup s.ro) (ht : ∀ x, (pre x).getD true = true → s.val x = some (res x)) : FnP.OK ⟨s.f, s.ss, s.hs, s.rs, s.ro, pre, res⟩ E :=
  fun x hp => h x (res x) (ht x hp)
/-- What is shown of a function's body. -/
def FnS.Run (s : FnS) (E : Env) (tab : List (Nat × LoopS)) (un : List Nat) (n : Nat) (g : HTup s.hs → Tr (HTup s.ro)) : Prop := ∀ x, fnL E (lpOf 0 tab) un n s.f (s.args x) = (g x).run fun r => decR (rks E s.f) (s.cells r)
theorem FnS.law {s : FnS} {E : Env} (hmx : E.P.follows .mixedOrders = true) (hm : E.merge = true) {nat : Tab} (hnat : TabOK E nat) {tab : List (Nat × LoopS)} {un : List Nat} (hlp : LPs (E.withN (natT nat)) [] tab (loopsU un (bodyOf (E.withN (natT nat)) s.f))) (hok : okCodeL (bodyOf (E.withN (natT nat)) s.f) = true)
    {n : Nat} {g : HTup s.hs → Tr (HTup s.ro)} (hg : ∀ x, s.val x = (g x).val) (h : s.Run (E.withN (natT nat)) tab un n g) : s.OK E := by
  intro x r hr
  have h1 := h x
  rw [Tr.run_val, ← hg x, hr] at h1
  exact lawL (E := E.withN (natT nat)) hmx hnat.nat hm (LPs.ok hlp) hok h1
theorem LoopS.law' {s : LoopS} {E : Env} (hmx : E.P.follows .mixedOrders = true) (hm : E.merge = true) {nat : Tab} (hnat : TabOK E nat) {base : List Ob} {tab : List (Nat × LoopS)} {un : List Nat} {n : Nat} {c : Code} (hlp : LPs (E.withN (natT nat)) base tab (loopsU un c)) (hok : okCodeL c = true) (hn : s.outs.all (fun w => notNormal w.e) = true)
    (h : s.Round (E.withN (natT nat)) (lpOf base.length tab) un n base.length c) : s.OK (E.withN (natT nat)) base c := fun _ _ _ hN hv =>
  LoopS.law (E := E.withN (natT nat)) hmx hnat.nat hm (LPs.ok hlp) hok hn h hN hv
/-- A slice that may be nil: both ways. -/
theorem law_split {E : Env} {f : FuncId} {s : Nat} {es : List (List PC)} {cs : List PC} (h1 : Law E f [.one (.p (.sl s true es))] cs) (h2 : es = [] → Law E f [.one (.p (.v (.slice none 0 0)))] cs) : Law E f [.one (.p (.sl s false es))] cs := by
  intro r hr R w ys hR hG hs
  obtain ⟨y, rest, rfl, hy, hrest⟩ := hs.uncons
  have hy' : CRep nowhere R void w (.p (.sl s false es)) y := hy
  cases hy' with
  | p _ _ hp =>
    cases hp with
    | sl _ _ _ A len cap f b o q1 q2 q3 q4 q5 q6 q7 =>
      cases A with
      | some a => exact h1 r hr R w _ hR hG (SReps.cons (x := .one (.p (.sl s true es))) (CRep.p _ _ (.sl s true es (some a) len cap f b o q1 q2 (fun _ h => by cases h) q4 q5 q6 q7)) hrest)
      | none =>
        have hc : cap = 0 := q4 rfl
        subst hc
        have hl : len = 0 := by omega
        subst hl
        have he : es = [] := List.eq_nil_of_length_eq_zero q1.symm
        exact h2 he r hr R w _ hR hG (SReps.cons (x := .one (.p (.v (.slice none 0 0)))) (CRep.p _ _ (.v _ rfl)) hrest)
def subLoop (un : List Nat) (c : Code) (k : Nat) : Code := (loopsU un c).getD k .skip
end Go.Ev
