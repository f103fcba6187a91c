/-
  Functions by the quick merging evaluator.
-/
import Derived.Test.YtaibdhmiglacdaaGreatDoorSm5
import Derived.Test.YtaibdhmiglacdaaGreatDoorSm8

namespace Go.Ev
open Go
set_option maxRecDepth 100000

theorem fnM_sim {E : Env} (hmx : E.P.follows .mixedOrders = true) (hnat : NatOK E) (hm : E.merge = true) {n : Nat} {f : FuncId} {args : List SV} (hok : okCode (bodyOf E f) = true) {r : RTup (rks E f)} (h : fnM E n f args = some r) : FnOK E f args r := by
  unfold fnM at h
  simp only [Option.bind_eq_some_iff] at h
  obtain ⟨fn, hf, c, hb, h⟩ := h
  have hc : bodyOf E f = c := by unfold bodyOf; rw [hf]; simp [hb]
  rw [hc] at hok
  refine fn_of_code hf hb ?_
  refine codeV_sim (call := callE E n) (body := fun _ _ _ => none) hmx (callE_ok hmx hnat n) (fun c st K r h => by cases h) hnat.call c _ _ _ ?_
  rw [← h]
  have e : initSt fn args [] = ⟨(initSt fn args []).tmps, []⟩ := rfl
  rw [e]
  symm
  refine codeM_eq E (callE E n) (fun _ _ _ _ _ _ _ => none) (fun _ _ _ => none) (fun _ _ _ _ _ _ _ _ _ _ => rfl) hm (lenT fn args) c hok _ _ [] _ _ (initN_ag fn args []) (initT_len fn args []) ?_
  intro e l t H h _
  have hr : (resN E t (Hp H) fn.results.toList fn.resultTypes.toList fun vs => (cellsAll vs).bind fun cs => outCsQ (Hp H) [] (rks E f) cs) = resVals E ⟨l, H⟩ fn.results.toList fn.resultTypes.toList fun vs => (cellsAll vs).bind fun cs => outCs H [] (rks E f) cs := by
    rw [resN_eq E h]; simp only [outCsQ_eq]
  cases e <;> first | rfl | exact hr
/-- A law by the quick merging evaluator. -/
theorem lawM {E : Env} (hmx : E.P.follows .mixedOrders = true) (hnat : NatOK E) (hm : E.merge = true) {n : Nat} {f : FuncId} {args : List SV} {cs : List PC} (hok : okCode (bodyOf E f) = true) (h : fnM E n f args = decR (rks E f) cs) : Law E f args cs :=
  fun _ hr => fnM_sim hmx hnat hm hok (h.trans hr)
end Go.Ev
