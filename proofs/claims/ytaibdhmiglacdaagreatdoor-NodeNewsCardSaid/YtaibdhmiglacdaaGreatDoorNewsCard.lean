/-
  NodeNews: for every kind, width and height the law answers true: the tied card.
-/
import Derived.Test.YtaibdhmiglacdaaGreatDoorEv16
import Derived.Test.YtaibdhmiglacdaaGreatDoorGlue

namespace Go.Proofs.YtaibdhmiglacdaaGreatDoor
open Go Go.Ev

theorem rks3 : rks EC 3 = [.rd .bool] := by kernel_rfl
theorem res3 : Tryz.f3.resultTypes.toList = [4] := by kernel_rfl
theorem sz4 : szOf Tryz.prog 4 = some 1 := by kernel_rfl
theorem agg4 : aggT Tryz.prog 4 = some false := by kernel_rfl
theorem grouped_bool {b : Bool} {vs : List Value} (h : Grouped Tryz.prog [4] [.bool b] vs) : oneOf vs = .bool b := by
  obtain ⟨n, agg, rest, h1, h2, h3, h4, h5, h6, h7⟩ := h
  rw [agg4] at h2
  cases h2
  obtain rfl := h5 rfl
  subst h7
  subst h4
  rfl
theorem reps_i64 {w : World} {x : Int} : SRep nowhere (fun _ => False) void w (i64 x) (.int .i64 x) := CRep.p _ _ (PRep.v _ rfl)
theorem news_walk (a0 a1 a2 : Int) (W : World) : Calls Tryz.prog 3 #[.int .i64 a0, .int .i64 a1, .int .i64 a2] W fun e w' => e = .returned (.bool true) ∧ W.keptBut w' (fun _ => False) := by
  have h := Law.calls_bool (law3 a0 a1 a2) rks3 W [.int .i64 a0, .int .i64 a1, .int .i64 a2] (SReps.cons reps_i64 (SReps.cons reps_i64 (SReps.cons reps_i64 SReps.nil)))
  refine Calls.mono h fun e w' he => ?_
  obtain ⟨⟨fn, hfn, vs, hg, rfl⟩, hk⟩ := he
  obtain rfl : fn = Tryz.f3 := (Option.some.inj (Tryz.func3.symm.trans hfn)).symm
  rw [res3] at hg
  rw [grouped_bool hg]
  exact ⟨rfl, hk⟩
/-- The statement's card. -/
theorem nodeNews_holds : Rows.NodeNewsCardSaid := news_card (news_said news_walk)
#print axioms nodeNews_holds
end Go.Proofs.YtaibdhmiglacdaaGreatDoor
