/-
  Rows: from a call's answer to what the row says; arguments that read again behind the call.
-/
import Derived.Test.YtaibdhmiglacdaaGreatDoorWt11
import Derived.Test.YtaibdhmiglacdaaGreatDoorWt10
import Derived.Test.YtaibdhmiglacdaaGreatDoorWt8
import Derived.Test.YtaibdhmiglacdaaGreatDoorRows
import Derived.Test.YtaibdhmiglacdaaGreatDoorCards
import Derived.Test.YtaibdhmiglacdaaGreatDoorTie
import Derived.ChangeSame
import Derived.ChangeVars
import Derived.RowKit
import Derived.LaidLaws
import Derived.Lib.LaidIn
import Derived.Lib.LaidU8T
import Derived.ProofKit
import Derived.SizedLaws
import Derived.SevenTiedAt
import Derived.WideShapes

namespace Go.Ev
open Go Go.Proofs

section
variable {H : Type} {enc : TypeId × Value → H} {P : Program} {w w' : World} {base : Nat} {spare : Nat → Bool} {held : Bool}
theorem sameAt_of {p : MemPlace} (hk : ∀ b, b < w.heap.size → w'.heap[b]? = w.heap[b]?) (hp : p.block < w.heap.size) : w.sameAt w' p := by
  cases p with
  | cell b off => show w'.cell? _ = w.cell? _; unfold World.cell?; rw [hk b hp]
  | map b => exact hk b hp
/-- Arguments read behind the call as before. -/
theorem trod_again (K : Kids P (· < P.types.size)) (hz : ∀ t e, t < P.types.size → P.underlying t = some (.slice e) → 0 < P.cellsOf e) (hk : ∀ b, b < w.heap.size → w'.heap[b]? = w.heap[b]?)
    {t : TypeId} (ht : t < P.types.size) {v : Value} {d : DataW H} {ps : List MemPlace} (h : DataW.Trod enc P w base (fun _ => true) true t v d ps) :
    DataW.Trod enc P w' base (fun b => decide (b < w.heap.size)) true t v d ps := by
  obtain ⟨n, hn⟩ := h
  have hlt := DataW.trod_lt n t _ _ hn
  have h1 := DataW.trod_respare (spare' := fun b => decide (b < w.heap.size)) K hz n t _ _ ht hn fun p hp => by simpa using hlt p hp
  exact ⟨n, DataW.trod_carry n t _ _ h1 fun p hp => sameAt_of hk (hlt p hp)⟩
/-- A value of a struct's type, by its cells. -/
theorem struct_fits (K : Kids P (· < P.types.size)) {t : TypeId} {fs : Array Field} (hu : P.underlying t = some (.struct fs)) (ht : t < P.types.size) {es : List Sh} (hs : shapes P 8 t = some es) {r : Reach} {b0 : Nat} {v : Value}
    (hv : Value.okWide P w r b0 t v) {d : DataW H} {ps : List MemPlace} (h : DataW.Trod enc P w base spare held t v d ps) (hw : (d.weights P t).all (· ≤ reachBytes) = true) :
    ∃ pcs, Fits es pcs ∧ SRep nowhere (there w) void w (.pagg pcs) v := by
  obtain ⟨cs, rfl, _⟩ := Go.WideShapes.okWide_struct hu hv
  obtain ⟨n, hn⟩ := h
  obtain ⟨_, pcs, f, r⟩ := trod_fits K 8 t es ht hs n _ _ hn hw
  exact ⟨pcs, f, cs.toList, by simp, r⟩
end

theorem kidsT : Kids Tryz.prog (· < Tryz.prog.types.size) := kids_rows (by kernel_rfl) (by kernel_rfl)
theorem fullT : ∀ t e, t < Tryz.prog.types.size → Tryz.prog.underlying t = some (.slice e) → 0 < Tryz.prog.cellsOf e := slices_full_of Tryz.prog (by kernel_rfl)

/-- What a law of one bool comes to: 'true', and nothing is changed. -/
theorem Law.calls_true {f : FuncId} {args : List SV} (h : Law EC f args [.v (.bool true)]) (hk : rks EC f = [.rd .bool]) {fn : Func} (hfn : Tryz.prog.funcs[f]? = some fn) (hres : fn.resultTypes.toList = [4]) (w : World) (ys : List Value)
    (hargs : SReps nowhere (there w) void w args ys) : Calls Tryz.prog f ys.toArray w fun e w' => e = .returned (.bool true) ∧ (∀ b, b < w.heap.size → w'.heap[b]? = w.heap[b]?) ∧ w.keptBut w' (fun _ => False) := by
  have hr : decR (rks EC f) [.v (.bool true)] = some (cast (congrArg RTup hk.symm) ((true, ()) : RTup [.rd .bool])) := by
    generalize rks EC f = l at hk
    subst hk
    rfl
  have := h _ hr (there w) w ys (fun b h => h) (fun g e he => by cases he) hargs
  refine this.mono fun e w' he => ?_
  cases e with
  | returned v =>
    obtain ⟨R', zs, vs, fn', h1, h2, h3, h4, h5, h6, h7, h8, h9, h10, h11, h12⟩ := he
    have hz : zs = [.bool true] := by
      generalize rks EC f = l at hk h10
      subst hk
      obtain ⟨z, rest, e1, e2, e3⟩ := h10
      have e3' : rest = [] := e3
      subst e3'
      subst e1
      cases e2
      rfl
    subst hz
    have h1' : Tryz.prog.funcs[f]? = some fn' := h1
    obtain rfl : fn' = fn := Option.some.inj (h1'.symm.trans hfn)
    rw [hres] at h11
    have hv : vs = [.bool true] := by
      obtain ⟨n, agg, rest, g1, g2, g3, g4, g5, g6, g7⟩ := h11
      have ha : aggT Tryz.prog 4 = some false := by kernel_rfl
      have g2' : aggT Tryz.prog 4 = some agg := g2
      rw [ha] at g2'
      cases g2'
      obtain rfl := g5 rfl
      subst g7
      subst g4
      rfl
    subst hv
    subst h12
    refine ⟨rfl, h5, h6, h8, fun i hi => ?_⟩
    rw [h5 i hi]
    cases w.heap[i]? with
    | none => rfl
    | some o => cases o <;> simp
  | _ => cases he
end Go.Ev
