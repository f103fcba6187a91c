/-
  The contents of the new nodes of kinds 5 and 6.
-/
import Derived.Test.YtaibdhmiglacdaaGreatDoorEv12
import Derived.Test.YtaibdhmiglacdaaGreatDoorEv13
import Derived.Test.YtaibdhmiglacdaaGreatDoorEv10
import Derived.Test.YtaibdhmiglacdaaGreatDoorEv5

namespace Go.Ev
open Go Go.Proofs
set_option maxRecDepth 100000

def nat70 (f : FuncId) (args : List SV) : Option (Option Bool × List PC) :=
  if f = 94 then (match args with | [] => some (none, fontQ) | _ => none)
  else if f = 149 then (match args with | [.one (.p (.v (.int .i64 n))), .one (.p (.v (.int .i64 lo)))] => some (none, [bP (outI n lo)]) | _ => none)
  else if f = 150 then (match args with | [.pagg [.v (.int .u8 _), .v (.int .i64 adv), .sl 7 _ es]] => some (some (okGlyph es), [iP (codeGlyph adv es)]) | _ => none)
  else if f = 107 then (match args with | [.one (.p (.sl 7 _ es))] => some (some (okPath es), [iP (pathCode es)]) | _ => none)
  else if f = 109 then (match args with
    | [.pagg [.v (.int .i64 a), .v (.int .i64 b), .v (.int .i64 c), .v (.int .i64 d), .v (.int .i64 e), .v (.int .i64 g)], .pagg [.v (.int .i64 (.ofNat x)), .v (.int .i64 (.ofNat y))]] =>
      if a = 65536 ∧ b = 0 ∧ c = 0 ∧ d = 65536 ∧ e = 0 ∧ g = 0 then cond (imgIs x y) (some (none, [iQ (Int.ofNat x), iQ (Int.ofNat y)])) none else none
    | _ => none)
  else if f = 110 then (match args with | [.pagg [.v (.int .i64 x), .v (.int .i64 y)]] => some (none, [bP (wthn x y)]) | _ => none)
  else if f = 82 then (match args with
    | [.one (.p (.v (.int .i64 (.ofNat a)))), .one (.p (.v (.int .i64 b)))] => if b = 1000 then (match findQ a divPairs with | some q => some (none, [iQ (Int.ofNat q)]) | none => none) else none
    | _ => none)
  else none
noncomputable def E70 : Env := envOf nat70 [] false
theorem nat70_ok : NatOK E70 := NatOK.of fun f ag c cs h hpre => by
  have h' : nat70 f ag = some (c, cs) := h
  have hpre' : (match nat70 f ag with | some (some c, _) => c | _ => true) = true := hpre
  clear hpre
  unfold nat70 at h' hpre'
  split at h'
  · next hf =>
    subst hf
    split at h'
    · cases h'; exact law94
    · cases h'
  · split at h'
    · next hf =>
      subst hf
      split at h'
      · next n lo => cases h'; exact law149 n lo
      · cases h'
    · split at h'
      · next hf =>
        subst hf
        split at h'
        · next ch adv nn es =>
          cases h'
          exact law150 ch adv nn es hpre'
        · cases h'
      · split at h'
        · next hf =>
          subst hf
          split at h'
          · next nn es =>
            cases h'
            exact law107 nn es hpre'
          · cases h'
        · split at h'
          · next hf =>
            subst hf
            split at h'
            · next a b c0 d e g x y =>
              split at h'
              · next ha =>
                obtain ⟨rfl, rfl, rfl, rfl, rfl, rfl⟩ := ha
                cases hi : imgIs x y with
                | false => rw [hi] at h'; cases h'
                | true =>
                  rw [hi] at h'
                  cases h'
                  exact law109 x y hi
              · cases h'
            · cases h'
          · split at h'
            · next hf =>
              subst hf
              split at h'
              · next x y => cases h'; exact law_of (E := EM) mixed natOK_none (within110 x y)
              · cases h'
            · split at h'
              · next hf =>
                subst hf
                split at h'
                · next a b =>
                  split at h'
                  · next hb =>
                    subst hb
                    split at h'
                    · next q hq => cases h'; exact law82 a q hq
                    · cases h'
                  · cases h'
                · cases h'
              · cases h'
theorem content6 : fnN E70 3000 34 [.pagg (nodeK 6)] = decR (rks E70 34) [iP 0] := by kernel_rfl
theorem law34_6 : Law E70 34 [.pagg (nodeK 6)] [iP 0] := law_of mixed nat70_ok ((fnN_eq E70 rfl _ _ _).symm.trans content6)
end Go.Ev
