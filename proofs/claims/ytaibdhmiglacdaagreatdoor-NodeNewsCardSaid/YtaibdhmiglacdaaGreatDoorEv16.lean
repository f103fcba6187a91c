/-
  NodeNews: every call answers true.
-/
import Derived.Test.YtaibdhmiglacdaaGreatDoorEv14
import Derived.Test.YtaibdhmiglacdaaGreatDoorEv15
import Derived.Test.YtaibdhmiglacdaaGreatDoorEv9
import Derived.Test.YtaibdhmiglacdaaGreatDoorEv6
import Derived.Test.YtaibdhmiglacdaaGreatDoorEv7
import Derived.Test.YtaibdhmiglacdaaGreatDoorEv8

namespace Go.Ev
open Go Go.Proofs
set_option maxRecDepth 100000

theorem veq_sound {x y : Value} (h : veq x y = true) : x = y := by
  unfold veq at h
  split at h
  · simp only [Bool.and_eq_true, decide_eq_true_eq] at h
    obtain ⟨rfl, rfl⟩ := h; rfl
  · rw [beq_iff_eq] at h; subst h; rfl
  · rename_i a b
    rw [beq_iff_eq] at h
    obtain ⟨a⟩ := a
    obtain ⟨b⟩ := b
    obtain ⟨a⟩ := a
    obtain ⟨b⟩ := b
    simp only at h
    subst h; rfl
  · cases h
mutual
theorem peq_sound : ∀ {x y : PC}, peq x y = true → x = y
  | .v x, .v y, h => by simp only [peq] at h; rw [veq_sound h]
  | .sl s nn es, .sl s' nn' es', h => by
    simp only [peq, Bool.and_eq_true, beq_iff_eq] at h
    obtain ⟨⟨rfl, rfl⟩, h⟩ := h
    rw [peqss_sound h]
  | .v _, .sl _ _ _, h => by simp [peq] at h
  | .sl _ _ _, .v _, h => by simp [peq] at h
theorem peqs_sound : ∀ {x y : List PC}, peqs x y = true → x = y
  | [], [], _ => rfl
  | x :: xs, y :: ys, h => by
    simp only [peqs, Bool.and_eq_true] at h
    rw [peq_sound h.1, peqs_sound h.2]
  | [], _ :: _, h => by simp [peqs] at h
  | _ :: _, [], h => by simp [peqs] at h
theorem peqss_sound : ∀ {x y : List (List PC)}, peqss x y = true → x = y
  | [], [], _ => rfl
  | x :: xs, y :: ys, h => by
    simp only [peqss, Bool.and_eq_true] at h
    rw [peqs_sound h.1, peqss_sound h.2]
  | [], _ :: _, h => by simp [peqss] at h
  | _ :: _, [], h => by simp [peqss] at h
end

theorem law59 (x lo hi : Int) : Law EM 59 [i64 x, i64 lo, i64 hi] [bP (cond (decide (lo ≤ x)) (decide (x ≤ hi)) false)] := law_of mixed natOK_none (within_law x lo hi)
theorem nat1_ok : NatOK E1 := NatOK.of fun f ag c cs h hpre => by
  clear hpre
  have h' : nat1 f ag = some (c, cs) := h
  unfold nat1 at h'
  split at h'
  · next hf =>
    subst hf
    split at h'
    · next x lo hi => cases h'; exact law59 x lo hi
    · cases h'
  · cases h'
theorem law_cond {E : Env} (hm : E.P.follows .mixedOrders = true) (hnat : NatOK E) {n : Nat} {f : FuncId} {args : List SV} {b : Bool} {x y : List PC} {cs : List PC} (h : fnV E n f args = cond b (decR (rks E f) x) (decR (rks E f) y)) (hc : cs = cond b x y) : Law E f args cs := by
  intro r hr
  refine fnV_sim hm hnat (h.trans ?_)
  rw [← hr, hc]
  cases b <;> rfl
theorem errC_cells (w h : Int) : ([iP (errC w h)] : List PC) = cond (cond (!W w) true (!W h)) [.v (.int .i64 15)] [.v (.int .i64 0)] := by
  unfold errC; cases cond (!W w) true (!W h) <;> rfl
theorem law32 (k : Int) (h1 : 1 ≤ k) (h2 : k ≤ 11) (w h : Int) : Law E1 32 [.pagg (nodeK k), i64 w, i64 h] [iP (errC w h)] := by
  have hk : k = 1 ∨ k = 2 ∨ k = 3 ∨ k = 4 ∨ k = 5 ∨ k = 6 ∨ k = 7 ∨ k = 8 ∨ k = 9 ∨ k = 10 ∨ k = 11 := by omega
  rcases hk with rfl | rfl | rfl | rfl | rfl | rfl | rfl | rfl | rfl | rfl | rfl
  · exact law_cond mixed nat1_ok (common1 w h) (errC_cells w h)
  · exact law_cond mixed nat1_ok (common2 w h) (errC_cells w h)
  · exact law_cond mixed nat1_ok (common3 w h) (errC_cells w h)
  · exact law_cond mixed nat1_ok (common4 w h) (errC_cells w h)
  · exact law_cond mixed nat1_ok (common5 w h) (errC_cells w h)
  · exact law_cond mixed nat1_ok (common6 w h) (errC_cells w h)
  · exact law_cond mixed nat1_ok (common7 w h) (errC_cells w h)
  · exact law_cond mixed nat1_ok (common8 w h) (errC_cells w h)
  · exact law_cond mixed nat1_ok (common9 w h) (errC_cells w h)
  · exact law_cond mixed nat1_ok (common10 w h) (errC_cells w h)
  · exact law_cond mixed nat1_ok (common11 w h) (errC_cells w h)
theorem nat2_ok : NatOK E2 := NatOK.of fun f ag c cs h hpre => by
  have h' : nat2 f ag = some (c, cs) := h
  unfold nat2 at h'
  split at h'
  · next hf =>
    subst hf
    split at h'
    · next c0 k cs' w hh =>
      split at h'
      · next hc =>
        cases h'
        simp only [Bool.and_eq_true, decide_eq_true_eq] at hc
        rw [peqs_sound hc.2]
        exact law32 k hc.1.1 hc.1.2 w hh
      · cases h'
    · cases h'
  · exact fun r hr => nat1_ok f ag c cs r h' hr (by
      show (match nat1 f ag with | some (some c, _) => c | _ => true) = true
      rw [h']
      have hp : (match nat2 f ag with | some (some c, _) => c | _ => true) = true := hpre
      have e : nat2 f ag = some (c, cs) := h
      rw [e] at hp
      exact hp)
theorem law34c (k : Int) (h1 : 5 ≤ k) (h2 : k ≤ 6) : Law EC 34 [.pagg (nodeK k)] [iP 0] := by
  have hk : k = 5 ∨ k = 6 := by omega
  rcases hk with rfl | rfl
  · exact law34_5
  · exact law34_6
theorem nat2c_ok : NatOK E2c := NatOK.of fun f ag c cs h hpre => by
  have h' : nat2c f ag = some (c, cs) := h
  unfold nat2c at h'
  split at h'
  · next hf =>
    subst hf
    split at h'
    · next c0 k cs' =>
      split at h'
      · next hc =>
        cases h'
        simp only [Bool.and_eq_true, decide_eq_true_eq] at hc
        rw [peqs_sound hc.2]
        exact law34c k hc.1.1 hc.1.2
      · cases h'
    · cases h'
  · exact fun r hr => nat2_ok f ag c cs r h' hr (by
      show (match nat2 f ag with | some (some c, _) => c | _ => true) = true
      rw [h']
      have hp : (match nat2c f ag with | some (some c, _) => c | _ => true) = true := hpre
      have e : nat2c f ag = some (c, cs) := h
      rw [e] at hp
      exact hp)
def errN (w h : Int) : Int := cond (!decide (errC w h = 0)) (errC w h) 0
theorem errN_cells (w h : Int) : ([iP (errN w h)] : List PC) = cond (!decide (errC w h = 0)) [.v (.int .i64 (errC w h))] [.v (.int .i64 0)] := by
  unfold errN; cases !decide (errC w h = 0) <;> rfl
theorem law14 (k : Int) (h1 : 1 ≤ k) (h2 : k ≤ 11) (w h : Int) : Law E2 14 [.pagg (nodeK k), i64 w, i64 h] [iP (errN w h)] := by
  have hk : k = 1 ∨ k = 2 ∨ k = 3 ∨ k = 4 ∨ k = 5 ∨ k = 6 ∨ k = 7 ∨ k = 8 ∨ k = 9 ∨ k = 10 ∨ k = 11 := by omega
  rcases hk with rfl | rfl | rfl | rfl | rfl | rfl | rfl | rfl | rfl | rfl | rfl
  · exact law_cond mixed nat2_ok (check1 w h) (errN_cells w h)
  · exact law_cond mixed nat2_ok (check2 w h) (errN_cells w h)
  · exact law_cond mixed nat2_ok (check3 w h) (errN_cells w h)
  · exact law_cond mixed nat2_ok (check4 w h) (errN_cells w h)
  · exact law_cond (E := E2c) mixed nat2c_ok (check5 w h) (errN_cells w h)
  · exact law_cond (E := E2c) mixed nat2c_ok (check6 w h) (errN_cells w h)
  · exact law_cond mixed nat2_ok (check7 w h) (errN_cells w h)
  · exact law_cond mixed nat2_ok (check8 w h) (errN_cells w h)
  · exact law_cond mixed nat2_ok (check9 w h) (errN_cells w h)
  · exact law_cond mixed nat2_ok (check10 w h) (errN_cells w h)
  · exact law_cond mixed nat2_ok (check11 w h) (errN_cells w h)
theorem law15 : Law EC 15 [] [bP true] := law_of mixed (fun f ag c cs r h => by cases h) example_true
theorem nat3_ok : NatOK E3 := NatOK.of fun f ag c cs h hpre => by
  have h' : nat3 f ag = some (c, cs) := h
  unfold nat3 at h'
  split at h'
  · next hf =>
    subst hf
    split at h'
    · next c0 k cs' w hh =>
      split at h'
      · next hc =>
        cases h'
        simp only [Bool.and_eq_true, decide_eq_true_eq] at hc
        rw [peqs_sound hc.2]
        exact law14 k hc.1.1 hc.1.2 w hh
      · cases h'
    · cases h'
  · split at h'
    · next hf =>
      subst hf
      split at h'
      · cases h'; exact law15
      · cases h'
    · exact fun r hr => nat2_ok f ag c cs r h' hr (by
        show (match nat2 f ag with | some (some c, _) => c | _ => true) = true
        rw [h']
        have hp : (match nat3 f ag with | some (some c, _) => c | _ => true) = true := hpre
        have e : nat3 f ag = some (c, cs) := h
        rw [e] at hp
        exact hp)
theorem law3_in (k : Int) (h1 : 1 ≤ k) (h2 : k ≤ 11) (w h : Int) : Law E3 3 [i64 k, i64 w, i64 h] [bP true] := by
  have hc : ([bP true] : List PC) = cond (newsC w h) [.v (.bool false)] [.v (.bool true)] := by rw [newsC_false]; rfl
  have hk : k = 1 ∨ k = 2 ∨ k = 3 ∨ k = 4 ∨ k = 5 ∨ k = 6 ∨ k = 7 ∨ k = 8 ∨ k = 9 ∨ k = 10 ∨ k = 11 := by omega
  rcases hk with rfl | rfl | rfl | rfl | rfl | rfl | rfl | rfl | rfl | rfl | rfl
  · exact law_cond mixed nat3_ok (news1 w h) hc
  · exact law_cond mixed nat3_ok (news2 w h) hc
  · exact law_cond mixed nat3_ok (news3 w h) hc
  · exact law_cond mixed nat3_ok (news4 w h) hc
  · exact law_cond mixed nat3_ok (news5 w h) hc
  · exact law_cond mixed nat3_ok (news6 w h) hc
  · exact law_cond mixed nat3_ok (news7 w h) hc
  · exact law_cond mixed nat3_ok (news8 w h) hc
  · exact law_cond mixed nat3_ok (news9 w h) hc
  · exact law_cond mixed nat3_ok (news10 w h) hc
  · exact law_cond mixed nat3_ok (news11 w h) hc

theorem law12 (k : Int) (h : oor k = true) : Law EC 12 [i64 k] [estr] := fun r hr =>
  fnV_sim (E := envOf (fun _ _ => none) [4] true) mixed (fun f ag c cs r h => by cases h) ((name_oor k).trans (by rw [h]; exact hr))
theorem law13 (k : Int) (h : oor k = true) : Law EC 13 [i64 k] [estr] := fun r hr =>
  fnV_sim (E := envOf (fun _ _ => none) [3] true) mixed (fun f ag c cs r h => by cases h) ((rname_oor k).trans (by rw [h]; exact hr))
theorem nat5_ok (cut : List Nat) (merge : Bool) : NatOK (envOf nat5 cut merge) := NatOK.of fun f ag c cs h hpre => by
  have h' : nat5 f ag = some (c, cs) := h
  have hpre' : (match nat5 f ag with | some (some c, _) => c | _ => true) = true := hpre
  clear hpre
  unfold nat5 at h' hpre'
  split at h'
  · next hf =>
    split at h'
    · next k =>
      cases h'
      rcases hf with rfl | rfl
      · exact law12 k hpre'
      · exact law13 k hpre'
    · cases h'
  · cases h'
theorem law9 (k : Int) (h : oor k = true) : Law EC 9 [i64 k] nodeZ := fun r hr =>
  fnV_sim (E := envOf nat5 [3] true) mixed (nat5_ok _ _) ((new_oor k).trans (by rw [h]; exact hr))
theorem law10 (k : Int) (h : oor k = true) : Law EC 10 [i64 k] nodeZ := fun r hr =>
  fnV_sim (E := envOf nat5 [5] true) mixed (nat5_ok _ _) ((rnew_oor k).trans (by rw [h]; exact hr))
theorem nat6_ok : NatOK (envOf nat6 [] false) := NatOK.of fun f ag c cs h hpre => by
  have h' : nat6 f ag = some (c, cs) := h
  have hpre' : (match nat6 f ag with | some (some c, _) => c | _ => true) = true := hpre
  clear hpre
  unfold nat6 at h' hpre'
  split at h'
  · next hf =>
    split at h'
    · next k =>
      cases h'
      rcases hf with rfl | rfl
      · exact law9 k hpre'
      · exact law10 k hpre'
    · cases h'
  · split at h'
    · next hf =>
      subst hf
      split at h'
      · cases h'; exact law15
      · cases h'
    · next h1 h2 =>
      have e : nat6 f ag = nat5 f ag := by unfold nat6; rw [if_neg h1, if_neg h2]
      exact fun r hr => nat5_ok [] false f ag c cs r h' hr (by
        show (match nat5 f ag with | some (some c, _) => c | _ => true) = true
        rw [h']
        have hp : (match nat6 f ag with | some (some c, _) => c | _ => true) = true := by
          unfold nat6
          rw [if_neg h1, if_neg h2]
          rw [if_neg h1, if_neg h2] at hpre'
          exact hpre'
        rw [e, h'] at hp
        exact hp)
theorem law3_oor (k : Int) (h : oor k = true) (w hh : Int) : Law EC 3 [i64 k, i64 w, i64 hh] [bP true] := fun r hr =>
  fnV_sim (E := envOf nat6 [] false) mixed nat6_ok ((news_oor k w hh).trans (by rw [h]; exact hr))
theorem law3 (k w h : Int) : Law EC 3 [i64 k, i64 w, i64 h] [bP true] := by
  cases ho : oor k with
  | true => exact law3_oor k ho w h
  | false =>
    unfold oor at ho
    have h1 : 1 ≤ k := by
      rcases Int.lt_or_le k 1 with h1 | h1
      · rw [decide_eq_true h1] at ho; cases ho
      · exact h1
    have h2 : k ≤ 11 := by
      rcases Int.lt_or_le 11 k with h2 | h2
      · have e1 : decide (k < 1) = false := decide_eq_false (by omega)
        have e2 : decide (k > 11) = true := decide_eq_true h2
        rw [e1, e2] at ho; cases ho
      · exact h2
    exact law3_in k h1 h2 w h

/-- What a law of one bool comes to. -/
theorem Law.calls_bool {f : FuncId} {args : List SV} {b : Bool} (h : Law EC f args [bP b]) (hk : rks EC f = [.rd .bool]) (w : World) (ys : List Value)
    (hargs : SReps nowhere (fun _ => False) void w args ys) : Calls Tryz.prog f ys.toArray w fun e w' => (∃ fn, Tryz.prog.funcs[f]? = some fn ∧ ∃ vs, Grouped Tryz.prog fn.resultTypes.toList [.bool b] vs ∧ e = .returned (oneOf vs)) ∧ w.keptBut w' (fun _ => False) := by
  have hr : decR (rks EC f) [bP b] = some (cast (congrArg RTup hk.symm) ((b, ()) : RTup [.rd .bool])) := by
    generalize rks EC f = l at hk
    subst hk
    rfl
  have := h _ hr (fun _ => False) w ys (fun b h => h.elim) (fun g e he => by cases he) hargs
  refine this.mono fun e w' he => ?_
  cases e with
  | returned v =>
    obtain ⟨R', zs, vs, fn, h1, h2, h3, h4, h5, h6, h7, h8, h9, h10, h11, h12⟩ := he
    have hz : zs = [.bool b] := by
      generalize rks EC f = l at hk h10
      subst hk
      obtain ⟨z, rest, e1, e2, e3⟩ := h10
      have e3' : rest = [] := e3
      subst e3'
      subst e1
      cases e2
      rfl
    subst hz
    refine ⟨⟨fn, h1, vs, h11, by rw [h12]⟩, h6, h8, fun i hi => ?_⟩
    rw [h5 i hi]
    cases w.heap[i]? with
    | none => rfl
    | some o => cases o <;> simp
  | _ => cases he
end Go.Ev
