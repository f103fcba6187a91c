/-
  path.Check: a round.
  path.Check: its law.
  font.outside, font.checkGlyph: their laws.
  font.checkGlyph: its law.
-/
import Derived.Test.YtaibdhmiglacdaaGreatDoorEv3
import Derived.Test.YtaibdhmiglacdaaGreatDoorEv5

namespace Go.Ev
open Go Go.Proofs
set_option maxRecDepth 100000

def slV (s : Nat) (nn : Bool) (es : List (List PC)) : AV := .s (.one (.p (.sl s nn es)))
def iP (n : Int) : PC := .v (.int .i64 n)
def bP (b : Bool) : PC := .v (.bool b)
def minI (x y : Int) : Int := if y < x then y else x
def maxI (x y : Int) : Int := if y > x then y else x
def wthn (x y : Int) : Bool := cond (decide (minI x y ≥ -16777216)) (decide (maxI x y ≤ 16777216)) false
theorem within110' (x y : Int) : fnV EM 10 110 [.pagg [iP x, iP y]] = cond (decide (minI x y ≥ -16777216)) (decR (rks EM 110) [bP (decide (maxI x y ≤ 16777216))]) (decR (rks EM 110) [bP false]) := by kernel_rfl
theorem within110 (x y : Int) : fnV EM 10 110 [.pagg [iP x, iP y]] = decR (rks EM 110) [bP (wthn x y)] := by
  rw [within110']; unfold wthn; cases decide (minI x y ≥ -16777216) <;> rfl
def usedI (k : Int) : Int := cond (k == 1) 1 (cond (k == 2) 1 (cond (k == 3) 2 (cond (k == 4) 3 0)))
theorem used108' (k : Int) : fnV EM 10 108 [i64 k] = cond (k == 1) (cond (k == 1) (decR (rks EM 108) [iP 1]) (cond (k == 3) (decR (rks EM 108) [iP 2]) (cond (k == 4) (decR (rks EM 108) [iP 3]) (decR (rks EM 108) [iP 0])))) (cond (k == 2) (decR (rks EM 108) [iP 1]) (cond (k == 3) (decR (rks EM 108) [iP 2]) (cond (k == 4) (decR (rks EM 108) [iP 3]) (decR (rks EM 108) [iP 0])))) := by kernel_rfl
theorem used108 (k : Int) : fnV EM 10 108 [i64 k] = decR (rks EM 108) [iP (usedI k)] := by
  rw [used108']; unfold usedI; cases k == 1 <;> cases k == 2 <;> cases k == 3 <;> cases k == 4 <;> rfl
def nat107 (f : FuncId) (args : List SV) : Option (Option Bool × List PC) :=
  if f = 110 then (match args with | [.pagg [.v (.int .i64 x), .v (.int .i64 y)]] => some (none, [bP (wthn x y)]) | _ => none)
  else if f = 108 then (match args with | [.one (.p (.v (.int .i64 k)))] => some (none, [iP (usedI k)]) | _ => none)
  else none
noncomputable def E107 : Env := envOf nat107 [] true
def kv107 (nn : Bool) (es : List (List PC)) (i : Int) : List (Nat × AV) := [(0, slV 7 nn es), (2, ints .i64 0), (10, slV 7 nn es), (11, ints .i64 es.length), (12, ints .i64 i)]
def R107 (n : Int) : Option (X × St) := some (.ret, ⟨build 64 [(2, ints .i64 n)], []⟩)
def bad107 (k c x y : Int) : Bool := cond (!wthn x y) true (cond (decide (c ≥ usedI k)) (!((x == 0) && (y == 0))) false)
abbrev K7 : List Kind := [.int .i64, .int .i64, .int .i64, .int .i64, .int .i64, .int .i64, .int .i64]
def kindBad (k : Int) : Bool := cond (decide (k < 1)) true (decide (k > 5))
def neOne (k : Int) : Bool := k != 1
def isFive (k : Int) : Bool := k == 5
def seg107 (k x0 y0 x1 y1 x2 y2 : Int) (rest : Option (X × St)) : Option (X × St) :=
  cond (kindBad k) (R107 8) (cond (bad107 k 0 x0 y0) (R107 2) (cond (bad107 k 1 x1 y1) (R107 2) (cond (bad107 k 2 x2 y2) (R107 2) rest)))
theorem round107 (nn : Bool) (es : List (List PC)) (i : Int) :
    evJ E107 noJ 10 (X × St) (loopAt E107 107 0) ⟨build 64 (kv107 nn es i), []⟩ (afterR 0 [0, 2, 10, 11, 12] [2]) =
    cond (decide (i < (es.length : Int))) (cond (decide (0 ≤ i)) ((es[i.toNat]?).bind fun e => (decs K7 ((e.drop 0).take 7)).bind fun t =>
      seg107 t.1 t.2.1 t.2.2.1 t.2.2.2.1 t.2.2.2.2.1 t.2.2.2.2.2.1 t.2.2.2.2.2.2.1
        (cond (neOne t.1) (cond (i == 0) (R107 24) (cond (decide (0 ≤ IntKind.i64.wrap (i - 1))) ((es[(IntKind.i64.wrap (i - 1)).toNat]?).bind fun e2 => (decs [.int .i64] ((e2.drop 0).take 1)).bind fun t2 =>
          cond (isFive t2.1) (R107 24) (some (.normal, ⟨build 64 (kv107 nn es (IntKind.i64.wrap (i + 1))), []⟩))) none)) (some (.normal, ⟨build 64 (kv107 nn es (IntKind.i64.wrap (i + 1))), []⟩)))) none)
      (some (.exit 0, ⟨build 64 [(2, ints .i64 0)], []⟩)) := by kernel_rfl
end Go.Ev

namespace Go.Ev
open Go Go.Proofs
set_option maxRecDepth 100000

theorem natOK_none {cut : List Nat} {merge : Bool} : NatOK (envOf (fun _ _ => none) cut merge) := fun f ag c cs r h => by cases h
theorem nat107_ok : NatOK E107 := NatOK.of fun f ag c cs h hpre => by
  clear hpre
  have h' : nat107 f ag = some (c, cs) := h
  unfold nat107 at h'
  split at h'
  · next hf =>
    subst hf
    split at h'
    · next x y =>
      cases h'
      exact law_of (E := EM) mixed natOK_none (within110 x y)
    · cases h'
  · split at h'
    · next hf =>
      subst hf
      split at h'
      · next k =>
        cases h'
        exact law_of (E := EM) mixed natOK_none (used108 k)
      · cases h'
    · cases h'

/-- What path.Check answers: the error of the first segment that is not right. -/
def orderErr (prev : Option Int) : Option Int := match prev with | none => some 24 | some p => cond (isFive p) (some 24) none
def segErr (t : Tup K7) (prev : Option Int) : Option Int :=
  let k : Int := t.1
  cond (kindBad k) (some 8) (cond (bad107 k 0 t.2.1 t.2.2.1) (some 2) (cond (bad107 k 1 t.2.2.2.1 t.2.2.2.2.1) (some 2) (cond (bad107 k 2 t.2.2.2.2.2.1 t.2.2.2.2.2.2.1) (some 2)
    (cond (neOne k) (orderErr prev) none))))
def pathGo : List (List PC) → Option Int → Option (Option Int)
  | [], _ => some none
  | e :: rest, prev => (decs K7 (e.take 7)).bind fun t => match segErr t prev with
    | some c => some (some c)
    | none => pathGo rest (some t.1)
def fin107 (c : Option Int) : X × St := match c with
  | none => (.exit 0, ⟨build 64 [(2, ints .i64 0)], []⟩)
  | some c => (.ret, ⟨build 64 [(2, ints .i64 c)], []⟩)

theorem wrap_id {n : Int} (h0 : -9223372036854775808 ≤ n) (h1 : n ≤ 9223372036854775807) : IntKind.i64.wrap n = n := by
  show (let m := n % (2 ^ 64 : Int); if true && decide (m ≥ (2 ^ (64 - 1) : Int)) then m - (2 ^ 64 : Int) else m) = n
  have h2 : (2 ^ 64 : Int) = 18446744073709551616 := rfl
  have h3 : (2 ^ (64 - 1) : Int) = 9223372036854775808 := rfl
  simp only [h2, h3, Bool.true_and, decide_eq_true_eq]
  split <;> omega

theorem decs_first {e : List PC} {t : Tup K7} (h : decs K7 (e.take 7) = some t) : decs [.int .i64] (e.take 1) = some (t.1, ()) := by
  cases e with
  | nil => cases h
  | cons c cs =>
    simp only [List.take_succ_cons, decs, Option.bind_eq_some_iff] at h
    obtain ⟨x, hx, y, hy, h⟩ := h
    cases h
    simp only [List.take_succ_cons, List.take_zero, decs, hx, Option.bind_some]
    rfl

/-- The element that stands before. -/
def prevOf (pre : List (List PC)) : Option (Option Int) := match pre.getLast? with
  | none => some none
  | some e => (decs K7 (e.take 7)).map fun t => some t.1

theorem path_loop (nn : Bool) (es : List (List PC)) (hlen : es.length ≤ 1000000) : ∀ (rest pre : List (List PC)) (prev c : Option Int), es = pre ++ rest → prevOf pre = some prev → pathGo rest prev = some c →
    CodeTo E107 (.loop (loopAt E107 107 0)) ⟨build 64 (kv107 nn es pre.length), []⟩ (fin107 c).1 (fin107 c).2 := by
  intro rest
  induction rest with
  | nil =>
    intro pre prev c he hp hg
    cases hg
    refine CodeTo.stop (round_to (J := noJ) (n := 10) (m := 0) (keep := [0, 2, 10, 11, 12]) (fin := [2]) mixed nat107_ok noJ_ok rfl ?_) (by simp [fin107])
    rw [round107]
    have : decide ((pre.length : Int) < (es.length : Int)) = false := by rw [decide_eq_false_iff_not, he]; simp
    rw [this]; rfl
  | cons e rest ih =>
    intro pre prev c he hp hg
    have hl : pre.length < es.length := by rw [he]; simp
    have e1 : decide ((pre.length : Int) < (es.length : Int)) = true := by rw [decide_eq_true_iff]; omega
    have e2 : decide ((0 : Int) ≤ (pre.length : Int)) = true := by rw [decide_eq_true_iff]; omega
    have e3 : es[(pre.length : Int).toNat]? = some e := by rw [he]; simp
    have e4 : IntKind.i64.wrap ((pre.length : Int) + 1) = ((pre ++ [e]).length : Int) := by rw [wrap_id (by omega) (by omega)]; simp
    simp only [pathGo, Option.bind_eq_some_iff] at hg
    obtain ⟨t, ht, hg⟩ := hg
    have hround := round107 nn es pre.length
    rw [e1, e2, e3] at hround
    simp only [cond_true, Option.bind_some, List.drop_zero, ht, e4] at hround
    have hret : ∀ n : Int, segErr t prev = some n → evJ E107 noJ 10 (X × St) (loopAt E107 107 0) ⟨build 64 (kv107 nn es pre.length), []⟩ (afterR 0 [0, 2, 10, 11, 12] [2]) = R107 n →
        CodeTo E107 (.loop (loopAt E107 107 0)) ⟨build 64 (kv107 nn es pre.length), []⟩ (fin107 c).1 (fin107 c).2 := by
      intro n hs hr
      rw [hs] at hg
      cases hg
      exact CodeTo.stop (round_to (J := noJ) (n := 10) (m := 0) (keep := [0, 2, 10, 11, 12]) (fin := [2]) mixed nat107_ok noJ_ok rfl hr) (by simp [fin107])
    have hnext : segErr t prev = none → evJ E107 noJ 10 (X × St) (loopAt E107 107 0) ⟨build 64 (kv107 nn es pre.length), []⟩ (afterR 0 [0, 2, 10, 11, 12] [2]) = some (.normal, ⟨build 64 (kv107 nn es (pre ++ [e]).length), []⟩) →
        CodeTo E107 (.loop (loopAt E107 107 0)) ⟨build 64 (kv107 nn es pre.length), []⟩ (fin107 c).1 (fin107 c).2 := by
      intro hs hr
      rw [hs] at hg
      refine CodeTo.next (round_to (J := noJ) (n := 10) (m := 0) (keep := [0, 2, 10, 11, 12]) (fin := [2]) mixed nat107_ok noJ_ok rfl hr) ?_
      exact ih (pre ++ [e]) (some t.1) c (by rw [he]; simp) (by simp [prevOf, ht]) hg
    have hse : segErr t prev = @cond (Option Int) (kindBad t.1) (some 8) (cond (bad107 t.1 0 t.2.1 t.2.2.1) (some 2) (cond (bad107 t.1 1 t.2.2.2.1 t.2.2.2.2.1) (some 2) (cond (bad107 t.1 2 t.2.2.2.2.2.1 t.2.2.2.2.2.2.1) (some 2)
      (cond (neOne t.1) (orderErr prev) none)))) := rfl
    unfold seg107 at hround
    rw [hse] at hret hnext
    cases h1 : kindBad t.1 with
    | true => rw [h1] at hround hret; exact hret 8 rfl hround
    | false =>
      rw [h1] at hround hret hnext
      cases h2 : bad107 t.1 0 t.2.1 t.2.2.1 with
      | true => rw [h2] at hround hret; exact hret 2 rfl hround
      | false =>
        rw [h2] at hround hret hnext
        cases h3 : bad107 t.1 1 t.2.2.2.1 t.2.2.2.2.1 with
        | true => rw [h3] at hround hret; exact hret 2 rfl hround
        | false =>
          rw [h3] at hround hret hnext
          cases h4 : bad107 t.1 2 t.2.2.2.2.2.1 t.2.2.2.2.2.2.1 with
          | true => rw [h4] at hround hret; exact hret 2 rfl hround
          | false =>
            rw [h4] at hround hret hnext
            cases h5 : neOne t.1 with
            | false => rw [h5] at hround hnext; exact hnext rfl hround
            | true =>
              rw [h5] at hround hret hnext
              simp only [cond_true, cond_false] at hround hret hnext
              cases hpl : pre.getLast? with
              | none =>
                have hpre : pre = [] := List.getLast?_eq_none_iff.1 hpl
                simp only [prevOf, hpl] at hp
                cases hp
                have h0 : ((pre.length : Int) == 0) = true := by rw [hpre]; rfl
                rw [h0] at hround
                exact hret 24 rfl hround
              | some ep =>
                obtain ⟨q, hq⟩ : ∃ q, pre = q ++ [ep] := List.getLast?_eq_some_iff.1 hpl
                have h0 : ((pre.length : Int) == 0) = false := by rw [beq_eq_false_iff_ne, hq]; simp; omega
                have hw : IntKind.i64.wrap ((pre.length : Int) - 1) = (q.length : Int) := by rw [wrap_id (by omega) (by omega), hq]; simp
                have hq0 : decide ((0 : Int) ≤ (q.length : Int)) = true := by rw [decide_eq_true_iff]; omega
                have hqe : es[((q.length : Nat) : Int).toNat]? = some ep := by rw [he, hq]; simp
                simp only [prevOf, hpl, Option.map_eq_some_iff] at hp
                obtain ⟨t2, ht2, rfl⟩ := hp
                rw [h0, hw, hq0, hqe] at hround
                simp only [cond_true, cond_false, Option.bind_some, decs_first ht2] at hround
                have hround2 : evJ E107 noJ 10 (X × St) (loopAt E107 107 0) ⟨build 64 (kv107 nn es pre.length), []⟩ (afterR 0 [0, 2, 10, 11, 12] [2]) = cond (isFive t2.1) (R107 24) (some (.normal, ⟨build 64 (kv107 nn es (pre ++ [e]).length), []⟩)) := hround
                cases h6 : isFive t2.1 with
                | true => exact hret 24 (by simp only [orderErr, h6, cond_true]) (hround2.trans (by rw [h6]; rfl))
                | false => exact hnext (by simp only [orderErr, h6, cond_false]) (hround2.trans (by rw [h6]; rfl))

noncomputable def J107 (nn : Bool) (es : List (List PC)) (c : Option Int) : Nat → Option Jmp := fun key => cond (Nat.beq key 4) (some ⟨[0, 2, 10, 11, 12], ⟨build 64 (kv107 nn es 0), []⟩, (fin107 c).1, (fin107 c).2⟩) none
theorem loops107 : loopsOf (bodyOf E107 107) = [loopAt E107 107 0] := by kernel_rfl
theorem key107 : loopKey (loopAt E107 107 0) = 4 := by kernel_rfl
def code107 (es : List (List PC)) (c : Option Int) : Int := cond (decide ((es.length : Int) > 128)) 3 (c.getD 0)
theorem run107 (nn : Bool) (es : List (List PC)) (c : Option Int) : fnJ E107 (J107 nn es c) 10 107 [.one (.p (.sl 7 nn es))] = cond (decide ((es.length : Int) > 128)) (decR (rks E107 107) [iP 3])
    (@ite _ ((⟨build 64 (kv107 nn es 0), []⟩ : St) = ⟨build 64 (kv107 nn es 0), []⟩) (Classical.propDecidable _) (match c with | none => decR (rks E107 107) [iP 0] | some c => decR (rks E107 107) [iP c]) none) := by
  cases c with
  | none => kernel_rfl
  | some c => kernel_rfl
/-- A jump that no state takes. -/
def jmpNo : Jmp := ⟨[], ⟨[.s (.one (.bp 0 0))], []⟩, .ret, ⟨[.s .dead], []⟩⟩
theorem jmpNo_ok {E : Env} {c : Code} : CodeTo E c jmpNo.s0 jmpNo.e jmpNo.s1 := by
  refine ⟨rfl, fun κ R a w hr => ?_⟩
  exfalso
  have hs : a.tmps.size = 1 := hr.size
  have hv := hr.tmps 0 a.tmps[0] (by simp [hs])
  have hv' : CRep κ R (hget []) w (.bp 0 0) a.tmps[0] := hv
  generalize a.tmps[0] = y at hv'
  cases hv' with
  | bpDead slot off a h => simp [hget] at h
  | bp slot off b o s h _ => simp [hget, Ob.stride] at h
theorem run107no (nn : Bool) (es : List (List PC)) : fnJ E107 (fun _ => some jmpNo) 10 107 [.one (.p (.sl 7 nn es))] = cond (decide ((es.length : Int) > 128)) (decR (rks E107 107) [iP 3])
    (@ite _ ((⟨build 64 [], []⟩ : St) = jmpNo.s0) (Classical.propDecidable _) none none) := by kernel_rfl
/-- path.Check. -/
theorem check107 (nn : Bool) (es : List (List PC)) (c : Option Int) (hc : es.length ≤ 128 → pathGo es none = some c) : Law E107 107 [.one (.p (.sl 7 nn es))] [iP (code107 es c)] := by
  intro r hr
  by_cases hl : es.length ≤ 128
  · refine fnJ_sim (J := J107 nn es c) (n := 10) mixed nat107_ok (fun c' hc' j hj => ?_) ?_
    · rw [loops107] at hc'
      obtain rfl := List.mem_singleton.1 hc'
      unfold J107 at hj
      rw [key107] at hj
      cases hj
      exact path_loop nn es (by omega) es [] none c rfl rfl (hc hl)
    · rw [run107]
      have : decide ((es.length : Int) > 128) = false := by rw [decide_eq_false_iff_not]; omega
      rw [this, cond_false, if_pos rfl, ← hr]
      unfold code107
      rw [this]
      cases c <;> rfl
  · refine fnJ_sim (J := fun _ => some jmpNo) (n := 10) mixed nat107_ok (fun c' _ j hj => by cases hj; exact jmpNo_ok) ?_
    rw [run107no]
    have : decide ((es.length : Int) > 128) = true := by rw [decide_eq_true_iff]; omega
    rw [this, cond_true, ← hr]
    unfold code107
    rw [this]; rfl
end Go.Ev

namespace Go.Ev
open Go Go.Proofs
set_option maxRecDepth 100000

def outI (n lo : Int) : Bool := cond (decide (n < lo)) true (decide (n > 65536))
theorem outside149 (n lo : Int) : fnV EM 10 149 [i64 n, i64 lo] = decR (rks EM 149) [bP (outI n lo)] := by kernel_rfl
def out2 (x y : Int) : Bool := cond (outI x (-65536)) true (outI y (-65536))
def okPath (es : List (List PC)) : Bool := cond (decide ((es.length : Int) > 128)) true (pathGo es none).isSome
def pathCode (es : List (List PC)) : Int := code107 es ((pathGo es none).getD none)
def nat150 (f : FuncId) (args : List SV) : Option (Option Bool × List PC) :=
  if f = 149 then (match args with | [.one (.p (.v (.int .i64 n))), .one (.p (.v (.int .i64 lo)))] => some (none, [bP (outI n lo)]) | _ => none)
  else if f = 107 then (match args with | [.one (.p (.sl 7 _ es))] => some (some (okPath es), [iP (pathCode es)]) | _ => none)
  else none
noncomputable def E150 : Env := envOf nat150 [] true
theorem law149 (n lo : Int) : Law EM 149 [i64 n, i64 lo] [bP (outI n lo)] := law_of mixed natOK_none (outside149 n lo)
theorem law107 (nn : Bool) (es : List (List PC)) (h : okPath es = true) : Law E107 107 [.one (.p (.sl 7 nn es))] [iP (pathCode es)] := by
  refine check107 nn es _ fun hl => ?_
  have : decide ((es.length : Int) > 128) = false := by rw [decide_eq_false_iff_not]; omega
  unfold okPath at h
  rw [this] at h
  obtain ⟨c, hc⟩ := Option.isSome_iff_exists.1 h
  rw [hc]; rfl
theorem nat150_ok : NatOK E150 := NatOK.of fun f ag c cs h hpre => by
  have h' : nat150 f ag = some (c, cs) := h
  have hpre' : (match nat150 f ag with | some (some c, _) => c | _ => true) = true := hpre
  clear hpre
  unfold nat150 at h' hpre'
  split at h'
  · next hf =>
    subst hf
    split at h'
    · next n lo =>
      cases h'
      exact law149 n lo
    · cases h'
  · next hne =>
    split at h'
    · next hf =>
      subst hf
      split at h'
      · next es =>
        cases h'
        exact law107 _ es hpre'
      · cases h'
    · cases h'

def hp150 (ch : PC) (adv : Int) (nn : Bool) (es : List (List PC)) : List Ob := [.box 3 [.p ch, .p (iP adv), .p (.sl 7 nn es)]]
def kv150 (nn : Bool) (es : List (List PC)) (i : Int) : List (Nat × AV) := [(2, ints .i64 0), (18, slV 7 nn es), (19, ints .i64 es.length), (20, ints .i64 i)]
def R150 (H : List Ob) (n : Int) : Option (X × St) := some (.ret, ⟨build 39 [(2, ints .i64 n)], H⟩)
theorem round150 (ch : Int) (adv : Int) (nn : Bool) (es : List (List PC)) (i : Int) :
    evJ E150 noJ 10 (X × St) (loopAt E150 150 0) ⟨build 39 (kv150 nn es i), hp150 (.v (.int .u8 ch)) adv nn es⟩ (afterR 1 [2, 18, 19, 20] [2]) =
    cond (decide (i < (es.length : Int))) (cond (decide (0 ≤ i)) ((es[i.toNat]?).bind fun e => (decs K7 ((e.drop 0).take 7)).bind fun t =>
      cond (out2 t.2.1 t.2.2.1) (R150 (hp150 (.v (.int .u8 ch)) adv nn es) 2) (cond (out2 t.2.2.2.1 t.2.2.2.2.1) (R150 (hp150 (.v (.int .u8 ch)) adv nn es) 2) (cond (out2 t.2.2.2.2.2.1 t.2.2.2.2.2.2.1) (R150 (hp150 (.v (.int .u8 ch)) adv nn es) 2)
        (some (.normal, ⟨build 39 (kv150 nn es (IntKind.i64.wrap (i + 1))), hp150 (.v (.int .u8 ch)) adv nn es⟩))))) none)
      (some (.exit 0, ⟨build 39 [(2, ints .i64 0)], hp150 (.v (.int .u8 ch)) adv nn es⟩)) := by kernel_rfl
end Go.Ev

namespace Go.Ev
open Go Go.Proofs
set_option maxRecDepth 100000

def glyphBad : List (List PC) → Option Bool
  | [] => some false
  | e :: rest => (decs K7 (e.take 7)).bind fun t => cond (out2 t.2.1 t.2.2.1) (some true) (cond (out2 t.2.2.2.1 t.2.2.2.2.1) (some true) (cond (out2 t.2.2.2.2.2.1 t.2.2.2.2.2.2.1) (some true) (glyphBad rest)))
def fin150 (H : List Ob) (b : Bool) : X × St := cond b (.ret, ⟨build 39 [(2, ints .i64 2)], H⟩) (.exit 0, ⟨build 39 [(2, ints .i64 0)], H⟩)

theorem glyph_loop (ch adv : Int) (nn : Bool) (es : List (List PC)) (hlen : es.length ≤ 1000000) (b : Bool) : ∀ (rest pre : List (List PC)), es = pre ++ rest → glyphBad rest = some b →
    CodeTo E150 (.loop (loopAt E150 150 0)) ⟨build 39 (kv150 nn es pre.length), hp150 (.v (.int .u8 ch)) adv nn es⟩ (fin150 (hp150 (.v (.int .u8 ch)) adv nn es) b).1 (fin150 (hp150 (.v (.int .u8 ch)) adv nn es) b).2 := by
  intro rest
  induction rest with
  | nil =>
    intro pre he hg
    cases hg
    refine CodeTo.stop (round_to (J := noJ) (n := 10) (m := 1) (keep := [2, 18, 19, 20]) (fin := [2]) mixed nat150_ok noJ_ok rfl ?_) (by simp [fin150])
    rw [round150]
    have : decide ((pre.length : Int) < (es.length : Int)) = false := by rw [decide_eq_false_iff_not, he]; simp
    rw [this]; rfl
  | cons e rest ih =>
    intro pre he hg
    have hl : pre.length < es.length := by rw [he]; simp
    have e1 : decide ((pre.length : Int) < (es.length : Int)) = true := by rw [decide_eq_true_iff]; omega
    have e2 : decide ((0 : Int) ≤ (pre.length : Int)) = true := by rw [decide_eq_true_iff]; omega
    have e3 : es[(pre.length : Int).toNat]? = some e := by rw [he]; simp
    have e4 : IntKind.i64.wrap ((pre.length : Int) + 1) = ((pre ++ [e]).length : Int) := by rw [wrap_id (by omega) (by omega)]; simp
    simp only [glyphBad, Option.bind_eq_some_iff] at hg
    obtain ⟨t, ht, hg⟩ := hg
    have hround := round150 ch adv nn es pre.length
    rw [e1, e2, e3] at hround
    simp only [cond_true, Option.bind_some, List.drop_zero, ht, e4] at hround
    have hret : some true = some b → evJ E150 noJ 10 (X × St) (loopAt E150 150 0) ⟨build 39 (kv150 nn es pre.length), hp150 (.v (.int .u8 ch)) adv nn es⟩ (afterR 1 [2, 18, 19, 20] [2]) = R150 (hp150 (.v (.int .u8 ch)) adv nn es) 2 →
        CodeTo E150 (.loop (loopAt E150 150 0)) ⟨build 39 (kv150 nn es pre.length), hp150 (.v (.int .u8 ch)) adv nn es⟩ (fin150 (hp150 (.v (.int .u8 ch)) adv nn es) b).1 (fin150 (hp150 (.v (.int .u8 ch)) adv nn es) b).2 := by
      intro hs hr
      cases hs
      exact CodeTo.stop (round_to (J := noJ) (n := 10) (m := 1) (keep := [2, 18, 19, 20]) (fin := [2]) mixed nat150_ok noJ_ok rfl hr) (by simp [fin150])
    cases h1 : out2 t.2.1 t.2.2.1 with
    | true => rw [h1] at hround hg; exact hret hg hround
    | false =>
      rw [h1] at hround hg
      cases h2 : out2 t.2.2.2.1 t.2.2.2.2.1 with
      | true => rw [h2] at hround hg; exact hret hg hround
      | false =>
        rw [h2] at hround hg
        cases h3 : out2 t.2.2.2.2.2.1 t.2.2.2.2.2.2.1 with
        | true => rw [h3] at hround hg; exact hret hg hround
        | false =>
          rw [h3] at hround hg
          exact CodeTo.next (round_to (J := noJ) (n := 10) (m := 1) (keep := [2, 18, 19, 20]) (fin := [2]) mixed nat150_ok noJ_ok rfl hround) (ih (pre ++ [e]) (by rw [he]; simp) hg)

noncomputable def J150 (ch adv : Int) (nn : Bool) (es : List (List PC)) (b : Bool) : Nat → Option Jmp := fun key => cond (Nat.beq key 7) (some ⟨[2, 18, 19, 20], ⟨build 39 (kv150 nn es 0), hp150 (.v (.int .u8 ch)) adv nn es⟩, (fin150 (hp150 (.v (.int .u8 ch)) adv nn es) b).1, (fin150 (hp150 (.v (.int .u8 ch)) adv nn es) b).2⟩) none
theorem loops150 : loopsOf (bodyOf E150 150) = [loopAt E150 150 0] := by kernel_rfl
theorem key150 : loopKey (loopAt E150 150 0) = 7 := by kernel_rfl
def okGlyph (es : List (List PC)) : Bool := okPath es && (glyphBad es).isSome
def codeGlyph (adv : Int) (es : List (List PC)) : Int := cond (outI adv 0) 2 (cond (pathCode es != 0) (pathCode es) (cond ((glyphBad es).getD false) 2 0))
theorem run150 (ch adv : Int) (nn : Bool) (es : List (List PC)) (b : Bool) : fnJ E150 (J150 ch adv nn es b) 10 150 [.pagg [.v (.int .u8 ch), iP adv, .sl 7 nn es]] = cond (outI adv 0) (decR (rks E150 150) [iP 2])
    (cond (okPath es) (cond (pathCode es != 0) (decR (rks E150 150) [iP (pathCode es)]) (@ite _ ((⟨build 39 (kv150 nn es 0), hp150 (.v (.int .u8 ch)) adv nn es⟩ : St) = ⟨build 39 (kv150 nn es 0), hp150 (.v (.int .u8 ch)) adv nn es⟩) (Classical.propDecidable _) (cond b (decR (rks E150 150) [iP 2]) (decR (rks E150 150) [iP 0])) none)) none) := by
  cases b <;> kernel_rfl
theorem run150no (ch adv : Int) (nn : Bool) (es : List (List PC)) : fnJ E150 (fun _ => some jmpNo) 10 150 [.pagg [.v (.int .u8 ch), iP adv, .sl 7 nn es]] = cond (outI adv 0) (decR (rks E150 150) [iP 2])
    (cond (okPath es) (cond (pathCode es != 0) (decR (rks E150 150) [iP (pathCode es)]) (@ite _ ((⟨build 39 [], hp150 (.v (.int .u8 ch)) adv nn es⟩ : St) = jmpNo.s0) (Classical.propDecidable _) none none)) none) := by kernel_rfl
/-- font.checkGlyph. -/
theorem law150 (ch adv : Int) (nn : Bool) (es : List (List PC)) (hok : okGlyph es = true) : Law E150 150 [.pagg [.v (.int .u8 ch), iP adv, .sl 7 nn es]] [iP (codeGlyph adv es)] := by
  intro r hr
  obtain ⟨h1, h2⟩ := (Bool.and_eq_true _ _).mp hok
  obtain ⟨b, hb⟩ := Option.isSome_iff_exists.1 h2
  unfold codeGlyph at hr
  by_cases hz : outI adv 0 = false ∧ (pathCode es != 0) = false
  · have hlen : es.length ≤ 128 := by
      rcases Nat.lt_or_ge 128 es.length with hl | hl
      · have : decide ((es.length : Int) > 128) = true := by rw [decide_eq_true_iff]; omega
        have h3 : pathCode es = 3 := by unfold pathCode code107; rw [this]; rfl
        rw [h3] at hz
        exact absurd hz.2 (by decide)
      · exact hl
    refine fnJ_sim (J := J150 ch adv nn es b) (n := 10) mixed nat150_ok (fun c' hc' j hj => ?_) ?_
    · rw [loops150] at hc'
      obtain rfl := List.mem_singleton.1 hc'
      unfold J150 at hj
      rw [key150] at hj
      cases hj
      exact glyph_loop ch adv nn es (by omega) b es [] rfl hb
    · rw [run150, hz.1, hz.2, h1, ← hr, hz.1, hz.2, hb]
      simp only [cond_true, cond_false, Option.getD_some]
      rw [if_pos trivial]
      cases b <;> rfl
  · refine fnJ_sim (J := fun _ => some jmpNo) (n := 10) mixed nat150_ok (fun c' _ j hj => by cases hj; exact jmpNo_ok) ?_
    rw [run150no, ← hr, h1]
    cases h3 : outI adv 0 with
    | true => rfl
    | false =>
      cases h4 : pathCode es != 0 with
      | true => rfl
      | false => exact absurd ⟨h3, h4⟩ hz
end Go.Ev
