/-
  NodeWiths: for any two nodes the law answers true: the tied card.
-/
import Derived.Test.YtaibdhmiglacdaaGreatDoorWt13
import Derived.Test.YtaibdhmiglacdaaGreatDoorWt14

namespace Go.Proofs.YtaibdhmiglacdaaGreatDoor
open Go Go.Ev
open Go.ChangeShapes Go.WideShapes Go.ChangeAt Go.RowKit Go.Lib
set_option maxRecDepth 100000

theorem Tryz.ownK' : ownKnob Tryz.prog.godebug = none := by kernel_rfl
/-- A world whose two variables hold what their initialisers lay. -/
noncomputable def laidW (os : Os) : World :=
  let w0 := World.holding Tryz.prog os ⟨#[], #[], []⟩
  let put (h : Array Obj) (g : Nat) (cs : Array Value) : Array Obj := h.modify g fun
    | .cells _ t frozen => .cells cs t frozen
    | o => o
  let h1 := put w0.heap 1 (Lib.firstTab.map fun z => Value.int .u8 z).toArray
  let h2 := put h1 2 ((List.range 16).flatMap fun i => [Value.int .u8 (Lib.accLo i), Value.int .u8 (Lib.accHi i)]).toArray
  { w0 with heap := h2 }
def laidLs : List (String × DataW Unit) := [("unicode/utf8.acceptRanges", Rows.laid_unicode_utf8_acceptRanges), ("unicode/utf8.first", Rows.laid_unicode_utf8_first)]
theorem laid_metW (os : Os) (args : Array Value) : laidMetH Tryz.prog laidLs ((laidW os).forCall (fun _ _ => 0) ⟨#[], args, []⟩).memory :=
  (LaidIn.of_run (l := laidLs) [2, 1] 8 (by kernel_rfl) (by kernel_rfl) (by kernel_rfl) (by kernel_rfl)).met

theorem twoSh_ok : shapes Tryz.prog 8 48 = some (nodeSh ++ (nodeSh ++ [])) := by kernel_rfl
theorem two_agg : ∃ fs, Tryz.prog.underlying 48 = some (.struct fs) := ⟨_, Tryz.underlying48⟩
theorem rks7 : rks EC 7 = [.rd .bool] := by kernel_rfl
theorem res7s : Tryz.f7.resultTypes.toList = [4] := by kernel_rfl

theorem withs_walk {H : Type} {enc : TypeId × Value → H} (W : World) (v : Value) {r : Reach} {b0 : Nat} (hv : Value.okWide Tryz.prog W r b0 48 v) {d : DataW H} {ps : List MemPlace}
    (h : DataW.Trod enc Tryz.prog W 0 (fun _ => true) true 48 v d ps) (hw : (d.weights Tryz.prog 48).all (· ≤ reachBytes) = true) :
    Calls Tryz.prog 7 #[v] W fun e w' => e = .returned (.bool true) ∧ (∀ b, b < W.heap.size → w'.heap[b]? = W.heap[b]?) ∧ W.keptBut w' (fun _ => False) := by
  obtain ⟨fs, hu⟩ := two_agg
  obtain ⟨pcs, hf, hr⟩ := struct_fits kidsT hu (by decide +kernel) twoSh_ok hv h hw
  obtain ⟨a, t1, rfl, hf, ha⟩ := node_fits hf
  obtain ⟨b, t2, rfl, hf, hb⟩ := node_fits hf
  rw [hf.unnil, List.append_nil] at hr
  exact Law.calls_true (show Law EC 7 [.pagg (a.cells ++ b.cells)] [.v (.bool true)] from law7 ha hb) rks7 Tryz.func7 res7s W [v] (SReps.cons hr SReps.nil)

theorem withs_lifted (os : Os) (started : os.Started) (H : Type) (enc : TypeId × Value → H) :
    ReturnsInHanded {} Tryz.checked os 7 .any (fun w args => (Rows.nodeWithsSpec.pre enc Tryz.prog Tryz.f7 [] false w args ∧ laidMetH Tryz.prog Rows.nodeWithsRow.laid w) ∧ sizedMet enc Tryz.prog Tryz.f7 (OpenSpec.ofChange Rows.nodeWithsSpec) false w args)
      (Rows.nodeWithsSpec.post enc Tryz.prog Tryz.f7 false true false false) := by
  refine returnsInHanded_of_change_and (C := Tryz.checked) (X := fun w _ => laidMetH Tryz.prog Rows.nodeWithsRow.laid w) (fun _ _ _ hh h => h.of_heap hh) Tryz.ownK' started (by kernel_rfl) Tryz.func7
    (ChangeSpec.witness_at (enc := enc) (C := Tryz.checked) (os := os) (X := fun w _ => laidMetH Tryz.prog Rows.nodeWithsRow.laid w) false (laidW os) #[((Tryz.prog.info? 48).bind (·.zero)).getD (.bool false)] 8 rfl (by kernel_rfl) (by kernel_rfl) (by kernel_rfl) (by kernel_rfl) (by kernel_rfl) (laid_metW os _)) ?_
  intro W base args ds gs before hval0 hW hcnd hwt hL _
  have hval : ∀ (j : Nat) t v, Tryz.f7.params[j]? = some t → args[j]? = some v → Value.okWide Tryz.prog W .any base t v := hval0
  have hW' := hW
  obtain ⟨p, q, hA0, hV, rfl, hfz, hnd⟩ := hW
  have hA : DataW.TrodAll enc Tryz.prog W 0 (fun _ => true) true Tryz.f7.params.toList args.toList ds p := hA0
  rw [Tryz.params7] at hA hval
  obtain ⟨v0, d0, rfl, rfl, h0⟩ := trodAll_one hA
  obtain ⟨rfl, rfl⟩ := trodVars_none hV
  have hwt0 : (d0.weights Tryz.prog 48).all (· ≤ reachBytes) = true := weightsEach_get hwt 0 48 d0 (by kernel_rfl) rfl
  have e1 : Rows.nodeWithsSpec.fn H ([d0] ++ []) = { results := [.lit (.bool true)], args := [d0] } := rfl
  refine (withs_walk W v0 (hval 0 48 v0 rfl rfl) h0 hwt0).mono fun e W' ⟨he, hk, hg⟩ => ?_
  subst he
  refine ⟨_, rfl, _, _, _, [], p ++ [], [], hW', ?_, ?_, ?_, World.keptBut_mono (fun _ f => f.elim) hg, fun h => by cases h⟩
  · rw [e1]; exact trodAll_cons_mk (shut_bool Tryz.underlying4 _) trodAll_mk0
  · rw [e1]; exact trodAll_cons_mk (trod_again kidsT fullT hk (by decide +kernel) h0) trodAll_mk0
  · rw [e1]; rfl

theorem withs_said : Rows.NodeWithsSaid :=
  OpenClaim.holds_of_wide 7 Tryz.f7 rfl rfl rfl rfl rfl rfl rfl ⟨rfl, rfl, rfl, rfl, rfl⟩ rfl rfl rfl rfl rfl (by kernel_rfl) Tryz.func7 (by kernel_rfl)
    (of_decide_eq_true (by kernel_rfl)) (by unfold Func.isWrapper; first | (rw [if_pos (by decide +kernel)]; kernel_rfl) | (rw [if_neg (by decide +kernel)]; exact ⟨rfl, rfl⟩))
    (fun os started H enc _ => withs_lifted os started H enc)

/-- The statement's card. -/
theorem nodeWiths_holds : Rows.NodeWithsCardSaid :=
  Claim7.holds_tied_plain_at .later [] [.data, .pinned] true (true, "6d7c16ea8ab45e039c3404c6a4cdfef132d09110e9ec138f53724d0810c7b461") false
    withs_said (fun _ h => by cases h) (by kernel_rfl) (fun _ h => by cases h) nodeWiths_row_tie rfl ⟨rfl, rfl⟩ (by kernel_rfl) rfl
    (fun f fn hf hfn => by
      obtain rfl : f = 7 := Option.some.inj ((show Tryz.prog.funcNamed "imageeditor/imageeditorlaw31.NodeWiths" = some 7 by kernel_rfl).symm.trans hf) |>.symm
      obtain rfl : fn = Tryz.f7 := (Option.some.inj (Tryz.func7.symm.trans hfn)).symm
      exact ⟨by kernel_rfl, fun j t ht => by
        rw [Tryz.params7] at ht
        have h3 : t = 48 := by
          rcases j with _ | j
          · simpa using ht.symm
          · simp at ht
        subst h3
        exact (show Tryz.prog.wantsStandIn 48 = false by kernel_rfl)⟩)
    (by kernel_rfl)
#print axioms nodeWiths_holds
end Go.Proofs.YtaibdhmiglacdaaGreatDoor
