/-
  make, conversions; all operations that call nothing, in one law.
  What a function hands back.
  What a body leaves, and what a function's call comes to.
  What a call takes over and brings back.
  Every operation, calls too.
  Operations that do not meet may change places.
  A region: its operations in the order of the text.
-/
import Derived.Test.YtaibdhmiglacdaaGreatDoorWt6
import Derived.Test.YtaibdhmiglacdaaGreatDoorWt1

namespace Go.Ev
open Go
variable {G : Nat → Option (List PC)}

section ops
variable {ρ : Type} {E : Env} {tm : List AV} {H : List Ob} {nb : Nat} {K : Out → Option ρ} {r : ρ}
variable {dst : Option Tmp} {ty : TypeId} {pos : String} {after : Array Edge} {guard : Option (Nat × Bool)}

theorem wrap_small {l : Int} (h0 : 0 ≤ l) (h1 : l ≤ 140737488355328) : IntKind.i64.wrap l = l := by
  have hm : l % (2 ^ IntKind.i64.bits : Int) = l := Int.emod_eq_of_lt h0 (by show l < 2 ^ 64; omega)
  have hb : ¬ (l ≥ (2 ^ (IntKind.i64.bits - 1) : Int)) := by show ¬ (l ≥ 2 ^ 63); omega
  unfold IntKind.wrap
  simp only [hm]
  simp [hb]

theorem run_makeSlice {P : Program} {w : World} {t e : TypeId} {s by_ : Nat} {z : List Value} {l c : Int} (hu : P.underlying t = some (.slice e)) (hs : szOf P e = some s) (hby : bytesOfT P e = some by_) (hz : zeroCells P e = some z) (hzl : z.length = s) (hs0 : 0 < s) (hb0 : 0 < by_)
    (h0 : 0 ≤ l) (h1 : l ≤ c) (h2 : c * by_ ≤ 140737488355328) :
    ∃ rest : List Value, (Instr.makeSlice t (.int .i64 l) (.int .i64 c)).run P w = .ok (.slice (some ⟨w.heap.size, 0, none⟩) l.toNat c.toNat) (w.alloc (.cells ((List.replicate l.toNat z).flatten ++ rest).toArray e)) ∧ rest.length = (c.toNat - l.toNat) * s := by
  obtain ⟨zv, z1, z2, z3⟩ := run_zero' hz w
  have hc : c ≤ 140737488355328 := by
    have : c * 1 ≤ c * by_ := Int.mul_le_mul_of_nonneg_left (by omega) (by omega)
    omega
  obtain ⟨i, hi, hib⟩ : ∃ i, P.info? e = some i ∧ i.bytes = by_ := by
    unfold bytesOfT at hby
    simp only [Option.map_eq_some_iff] at hby
    exact hby
  have hti : (typeInfo e).run P w = .ok i w := by simp [typeInfo, hi]
  have hwl := wrap_small h0 (by omega : l ≤ 140737488355328)
  have hwc := wrap_small (by omega : 0 ≤ c) hc
  have hcond : ((decide (c < 0) || decide ((i.bytes : Int) * c > 2 ^ 48)) || decide (l < 0) || decide (l > c)) = false := by
    have : (i.bytes : Int) * c ≤ 140737488355328 := by rw [hib, Int.mul_comm]; exact h2
    simp
    omega
  refine ⟨(List.replicate (c.toNat - l.toNat) z).flatten, ?_, by simp [hzl]⟩
  have hzv : zv.cells = z.toArray := by rw [← z2]
  have hsplit : (List.replicate l.toNat z).flatten ++ (List.replicate (c.toNat - l.toNat) z).flatten = (List.replicate c.toNat z).flatten := by
    rw [← List.flatten_append, List.replicate_append_replicate]
    congr 2; omega
  rw [hsplit, ← zeros_list hzl hs0 c.toNat]
  unfold Instr.makeSlice
  simp only [Sem.run_bind, run_underlying' hu, Result.andThen_ok, asInt, asIntOf_int, Sem.run_pure, hti, hwl, hwc, hcond, Bool.false_eq_true, if_false, run_askRoom, run_sizeOf' hs]
  by_cases hn : c.toNat * s = 0
  · rw [if_pos hn]
    simp only [Sem.run_pure, Result.andThen_ok, newRow, Sem.run_bind, run_newObj, hn, World.alloc_eq]
    congr 3
    apply Array.ext'
    simp
  · rw [if_neg hn]
    simp only [Sem.run_bind, z1, Result.andThen_ok, Sem.run_pure, newRow, run_newObj, World.alloc_eq, hzv]
    congr 3
    apply Array.ext'
    simp [hzl]

theorem heap_alloc (w : World) (c : Array Value) (t : TypeId) : (w.alloc (.cells c t)).heap[w.heap.size]? = some (.cells c t (0, 0)) := by
  show (w.heap.push _)[w.heap.size]? = _; simp

theorem sim_makeSlice {t : TypeId} {x y : Operand} (h : aop E tm H nb ⟨dst, .makeSlice t x y, ty, pos, after, guard⟩ K = some r) : Does E tm H nb ⟨dst, .makeSlice t x y, ty, pos, after, guard⟩ K r := by
  simp only [aop, Option.bind_eq_some_iff] at h
  obtain ⟨v, hv, u, hu', h⟩ := h
  unfold makeSl at h
  simp only [Option.bind_eq_some_iff] at h
  obtain ⟨e, he, s, hs, by_, hby, z, hz, h⟩ := h
  have hu : E.P.underlying t = some (.slice e) := by
    unfold elemT at he
    split at he
    · next hu => cases he; exact hu
    · cases he
  split at h
  · next hcond =>
    obtain ⟨hzl, hs0, hb0⟩ := hcond
    split at h
    · next l c =>
      by_cases hc : 0 ≤ l ∧ l ≤ c ∧ c * by_ ≤ 140737488355328
      · obtain ⟨h0, h1, h2⟩ := hc
        simp only [h0, h1, h2, decide_true, Bool.and_true, cond_true] at h
        have hrun : ∀ {out : Out} {t' : Nat → AV} {h' : Nat → Ob} {κ : Kap} {R : Nat → Prop} {a : Act} {w : World}, Alike ⟨dst, .makeSlice t x y, ty, pos, after, guard⟩ tm.length (tget tm) t' (hget H) h' nb out → Rel E.G κ R tm.length t' h' a w →
            ∃ rest : List Value, (execOp a.eval ⟨dst, .makeSlice t x y, ty, pos, after, guard⟩).run E.P w = .ok (.value (.slice (some ⟨w.heap.size, 0, none⟩) l.toNat c.toNat)) (w.alloc (.cells ((List.replicate l.toNat z).flatten ++ rest).toArray e)) ∧ rest.length = (c.toNat - l.toNat) * s ∧ ∀ q ∈ z, q.oneCell' = true := by
          intro out t' h' κ R a w hal hrel
          have e1 := val_rep (x := .int .i64 l) rfl (operand_rep hrel hv (hal.opnd (by simp [Op.operands])))
          have e2 := val_rep (x := .int .i64 c) rfl (operand_rep hrel hu' (hal.opnd (by simp [Op.operands])))
          obtain ⟨rest, hr, hl⟩ := run_makeSlice (w := w) hu hs hby hz hzl hs0 hb0 h0 h1 h2
          obtain ⟨_, _, _, z3⟩ := run_zero' hz w
          exact ⟨rest, by simp only [execOp, e1, e2, Sem.run_bind, hr, Result.andThen_ok, Sem.run_pure], hl, z3⟩
        have hsz : ∀ rest : List Value, rest.length = (c.toNat - l.toNat) * s → c.toNat * s ≤ ((List.replicate l.toNat z).flatten ++ rest).toArray.size := by
          intro rest hl
          have : c.toNat * s = l.toNat * s + (c.toNat - l.toNat) * s := by rw [← Nat.add_mul]; congr 1; omega
          simp only [List.size_toArray, List.length_append, hl, List.length_flatten, List.map_replicate, List.sum_replicate_nat, hzl]
          omega
        split at h
        · refine ⟨_, h, fun t' h' κ R a w hal hrel => ?_⟩
          obtain ⟨rest, hr, hl, z3⟩ := hrun hal hrel
          have hbase : CReps κ R h' w (flatZero z l.toNat) (List.replicate l.toNat z).flatten := by
            rw [flatZero_eq]
            exact creps_vals (fun x hx => by
              simp only [List.mem_flatten, List.mem_replicate] at hx
              obtain ⟨l, ⟨_, rfl⟩, hx⟩ := hx
              exact z3 x hx)
          obtain ⟨κ', k1, k2, k3⟩ := new_box' (G := E.G) (nb := nb) (rest := rest) hrel.heap (hal.free nb (Nat.le_refl _) (by simp)) s e hbase
          refine ⟨κ', R, _, _, .inl hr, ?_, k2, k3⟩
          exact own_new (s := s) (by rw [put_get]; rfl) k1 (by omega) (heap_alloc w _ e) (hsz rest hl)
        · refine ⟨_, h, fun t' h' κ R a w hal hrel => ?_⟩
          obtain ⟨rest, hr, hl, z3⟩ := hrun hal hrel
          have hzreps : PReps R w (List.replicate l.toNat (z.map PC.v)).flatten (List.replicate l.toNat z).flatten := by
            have : (List.replicate l.toNat (z.map PC.v)).flatten = ((List.replicate l.toNat z).flatten).map PC.v := by
              rw [List.map_flatten, List.map_replicate]
            rw [this]
            exact preps_vals (fun x hx => by
              simp only [List.mem_flatten, List.mem_replicate] at hx
              obtain ⟨l, ⟨_, rfl⟩, hx⟩ := hx
              exact z3 x hx)
          obtain ⟨κ', k1, k2, k3⟩ := new_arr (G := E.G) (nb := nb) (rest := rest) hrel.heap (hal.free nb (Nat.le_refl _) (by simp)) e (s := s) (es := List.replicate l.toNat (z.map PC.v)) (fun x hx => by simp only [List.mem_replicate] at hx; rw [hx.2]; simpa using hzl) hzreps
          refine ⟨κ', R, _, _, .inl hr, ?_, k2, k3⟩
          exact own_new (s := s) (by rw [put_get]; rfl) k1 (by omega) (heap_alloc w _ e) (hsz rest hl)
      · exfalso
        have : (decide (0 ≤ l) && decide (l ≤ c) && decide (c * by_ ≤ 140737488355328)) = false := by simp; omega
        rw [this] at h; cases h
    · cases h
  · cases h

theorem sim_convert {src dt : TypeId} {x : Operand} (h : aop E tm H nb ⟨dst, .convert src dt x, ty, pos, after, guard⟩ K = some r) : Does E tm H nb ⟨dst, .convert src dt x, ty, pos, after, guard⟩ K r := by
  simp only [aop, Option.bind_eq_some_iff] at h
  obtain ⟨v, hv, h⟩ := h
  unfold convV at h
  split at h
  · next d k k' n hsrc hdt =>
    refine ⟨_, h, .of_value fun t' h' κ R a w hal hrel => ⟨_, ?_, rep_ints k _⟩⟩
    have e := val_rep (x := .int k' n) rfl (operand_rep hrel hv (hal.opnd (by simp [Op.operands])))
    simp only [execOp, convert, Sem.run_bind, run_underlying' hsrc, run_underlying' hdt, Result.andThen_ok, e]
    rfl
  · next d b hsrc hdt =>
    refine ⟨_, h, .of_value fun t' h' κ R a w hal hrel => ⟨.string b, ?_, .p _ _ (.v _ rfl)⟩⟩
    have e := val_rep (x := .string b) rfl (operand_rep hrel hv (hal.opnd (by simp [Op.operands])))
    simp only [execOp, convert, Sem.run_bind, run_underlying' hsrc, run_underlying' hdt, Result.andThen_ok, e]
    rfl
  · next d e s hsrc hdt =>
    split at h
    · next he =>
      refine ⟨_, h, fun t' h' κ R a w hal hrel => ?_⟩
      have e0 := val_rep (x := .string s) rfl (operand_rep hrel hv (hal.opnd (by simp [Op.operands])))
      obtain ⟨cap, hcap⟩ : ∃ cap, cap = (Question.appendCap s.size 0 e).cut (w.tape w.drawn (.appendCap s.size 0 e)) := ⟨_, rfl⟩
      have hcs : s.size ≤ cap := by rw [hcap]; exact Nat.le_add_right _ _
      obtain ⟨c, hc⟩ : ∃ c : Array Value, c = (s.data.map fun b => Value.int .u8 b.toNat) ++ Array.replicate (cap - s.size) (.int .u8 0) := ⟨_, rfl⟩
      have hcsz : c.size = cap := by
        have : s.data.size = s.size := rfl
        rw [hc]; simp [this]; omega
      obtain ⟨w1, hw1⟩ : ∃ w1 : World, w1 = (w.drew.alloc (.cells c e)).freeze ⟨w.heap.size, c.size, none⟩ 1 := ⟨_, rfl⟩
      have hheap : w1.heap = (w.heap.push (.cells c e)).modify w.heap.size fun
          | .cells c elem (lo, hi) => .cells c elem (if lo == hi then (c.size, c.size + 1) else (min lo c.size, max hi (c.size + 1)))
          | o => o := by
        rw [hw1]
        unfold World.freeze
        rw [if_neg (by omega)]
        apply Array.ext_getElem?
        intro j
        simp only [Array.getElem?_modify]
        split
        · next hj => subst hj; show Option.map _ (w.heap.push (Obj.cells c e))[w.heap.size]? = _; simp
        · rfl
      have hblock : w1.heap[w.heap.size]? = some (.cells c e (c.size, c.size + 1)) := by
        rw [hheap, Array.getElem?_modify, if_pos rfl]
        simp
      have hrun : (execOp a.eval ⟨dst, .convert src dt x, ty, pos, after, guard⟩).run E.P w = .ok (.value (.slice (some ⟨w.heap.size, 0, none⟩) s.size cap)) w1 := by
        simp only [execOp, convert, Sem.run_bind, run_underlying' hsrc, run_underlying' hdt, Result.andThen_ok, e0, run_underlying' he, Conv.stringToBytes, run_choose, Question.forced, Bool.false_eq_true, if_false, newRow, run_newObj, Sem.run_pure, markStringish, run_shape, ← hcap, ← hc]
        have hsh : (World.shape? ({ w with drawn := w.drawn + 1, heap := w.heap.push (.cells c e) } : World) w.heap.size) = some (e, c.size) := by
          simp [World.shape?]
        rw [hsh]
        simp only [run_freeze, Result.andThen_ok]
        rw [hw1]
        rfl
      obtain ⟨d1, d2⟩ := step_drew hrel.heap
      have hv2 : h' nb = .void := hal.free nb (Nat.le_refl _) (by simp)
      have hdata : ∀ l : List UInt8, (bytesPC l).length = l.length := fun l => by simp [bytesPC]
      have he' : putsF h' [.obj nb (.arr 1 false (bytesPC s.data.toList))] = fun i => if i = nb then .arr 1 false (bytesPC s.data.toList) else if (fun _ => false : Nat → Bool) i then .dead else h' i := by
        funext i; simp [putsF, Wr.putF]
      have hos : w1.os = w.os := by rw [hw1]; unfold World.freeze; rw [if_neg (by omega)]; rfl
      have htp : w1.tape = w.tape := by rw [hw1]; unfold World.freeze; rw [if_neg (by omega)]; rfl
      have hout : w1.output = w.output := by rw [hw1]; unfold World.freeze; rw [if_neg (by omega)]; rfl
      have hstep := step_put d1 nb w.heap.size 0 (.arr 1 false (bytesPC s.data.toList)) (fun _ => false) (w' := w1) hos htp hout (by rw [hheap]; simp) (by rw [hheap]; simp)
        (fun x hx hlt => by
          rw [hheap, Array.getElem?_modify, if_neg (fun e => hx e.symm), Array.getElem?_push, if_neg (fun e => hx e)]
          rfl)
        (fun c0 t0 fr0 hx => by have := (Array.getElem?_eq_some_iff.1 hx).1; have h2 : w.drew.heap.size = w.heap.size := rfl; omega)
        (.inl (Nat.le_refl _)) (.inl hv2) rfl (fun hext hR => by
          refine .inr ⟨w.heap.size, 0, c, e, (c.size, c.size + 1), by simp [updN], hblock, ?_, fun hz => (by cases hz), fun _ => hR, ?_, fun i l hi => ?_⟩
          · intro j hj hh; omega
          · rw [hdata, hcsz]
            have : s.data.toList.length = s.size := by rw [Array.length_toList]; rfl
            omega
          · unfold bytesPC at hi
            rw [List.getElem?_map] at hi
            cases hb : s.data.toList[i]? with
            | none => rw [hb] at hi; cases hi
            | some u =>
              rw [hb] at hi; cases hi
              refine ⟨rfl, fun j x' hj => ?_⟩
              cases j with
              | succ j => cases hj
              | zero =>
                cases hj
                refine ⟨.int .u8 u.toNat, ?_, .v _ rfl⟩
                have hlt := (List.getElem?_eq_some_iff.1 hb).1
                rw [Array.length_toList] at hlt
                rw [hc, Nat.zero_add, Nat.mul_one, Nat.add_zero, Array.getElem?_append_left (by simpa using hlt), Array.getElem?_map]
                have : s.data[i]? = some u := by rw [← Array.getElem?_toList]; exact hb
                rw [this]; rfl)
      refine ⟨updN κ nb (some (w.heap.size, 0)), R, _, w1, .inl hrun, ?_, by rw [he']; exact hstep.1, by rw [he']; exact d2.trans hstep.2⟩
      refine .own nb 0 s.size cap _ 1 (by rw [put_get]; rfl) hcs (fun e => by cases e) (.inr ⟨w.heap.size, 0, by simp [updN], by simp, c, e, _, hblock, by omega⟩)
    · cases h
  · cases h

/-- Every operation that calls nothing. -/
theorem aop_sim {o : Oper} (h : aop E tm H nb o K = some r) : Does E tm H nb o K r := by
  obtain ⟨dst, op, ty, pos, after, guard⟩ := o
  cases op with
  | move x => exact sim_move h
  | assign x => exact sim_assign h
  | pick c a b => exact sim_pick h
  | alloc t => exact sim_alloc h
  | box t x => exact sim_box h
  | build t ps => exact sim_build h
  | buildSlice t n ps => exact sim_buildSlice h
  | load t a => exact sim_load h
  | store t a x => exact sim_store h
  | nilCheck x => exact sim_nilCheck h
  | binOp op t x y t' => exact sim_binOp h
  | unOp op t x => exact sim_unOp h
  | convert a b x => exact sim_convert h
  | makeFunc fn first captured =>
    cases fn with
    | func f => exact sim_makeFunc h
    | _ => cases h
  | makeSlice t l c => exact sim_makeSlice h
  | slice t x lo hi mx => exact sim_slice h
  | fieldAddr t x f => exact sim_fieldAddr h
  | field t x f => exact sim_field h
  | indexAddr t x i => exact sim_indexAddr h
  | index t x i => exact sim_index h
  | extract t i => exact sim_extract h
  | call c =>
    obtain ⟨callee, args, ts⟩ := c
    cases callee with
    | builtin b => exact sim_builtin h
    | _ => cases h
  | _ => cases h

end ops
end Go.Ev

namespace Go.Ev
open Go
variable {G : Nat → Option (List PC)}

/-- A slice in new memory. -/
def FrRep (R : Nat → Prop) (w : World) (U : Nat → Prop) (s : Nat) (es : List (List PC)) (z : Value) (K : (Nat → Prop) → Prop) : Prop :=
  ∃ (A : Option Addr) (cap : Nat), z = .slice A es.length cap ∧ es.length ≤ cap ∧ (A = none → cap = 0) ∧
    ((cap = 0 ∧ K U) ∨ ∃ (b o : Nat) (c : Array Value) (ty : TypeId) (fr : Nat × Nat), A = some ⟨b, o, none⟩ ∧ ¬ U b ∧ w.heap[b]? = some (.cells c ty fr) ∧ thawed c fr ∧ o + cap * s ≤ c.size ∧
      (∀ (i : Nat) (e : List PC), es[i]? = some e → e.length = s ∧ ∀ (j : Nat) (x : PC), e[j]? = some x → ∃ y, c[o + i * s + j]? = some y ∧ PRep R w x y) ∧ K (fun x => U x ∨ x = b))

/-- The cells of results; U: the blocks that are not new. -/
def ResRep (R : Nat → Prop) (w : World) : (U : Nat → Prop) → (ks : List RK) → RTup ks → List Value → Prop
  | _, [], _, zs => zs = []
  | U, .rd q :: ks, t, zs => ∃ (z : Value) (rest : List Value), zs = z :: rest ∧ PRep R w (q.enc t.1) z ∧ ResRep R w U ks t.2 rest
  | U, .fr s :: ks, t, zs => ∃ (z : Value) (rest : List Value), zs = z :: rest ∧ FrRep R w U s t.1 z (fun U' => ResRep R w U' ks t.2 rest)

theorem CReps.cons {κ : Kap} {R : Nat → Prop} {h : Nat → Ob} {w : World} {c : C} {cs : List C} {zs : List Value} (hc : CReps κ R h w (c :: cs) zs) : ∃ z rest, zs = z :: rest ∧ CRep κ R h w c z ∧ CReps κ R h w cs rest := by
  match zs, hc.1 with
  | z :: rest, hl => exact ⟨z, rest, rfl, hc.2 0 c z rfl rfl, by simpa using hl, fun i c' y h1 h2 => hc.2 (i + 1) c' y (by simpa using h1) (by simpa using h2)⟩

theorem hget_some {H : List Ob} {s : Nat} {ob : Ob} (h : H[s]? = some ob) : hget H s = ob := by simp [hget, h]

theorem outCs_rep {H : List Ob} {κ : Kap} {R : Nat → Prop} {w : World} (hH : HRep G κ R (hget H) w) : ∀ (ks : List RK) (used : List Nat) (cs : List C) (t : RTup ks) (zs : List Value), outCs H used ks cs = some t → CReps κ R (hget H) w cs zs →
    ∃ X Y : List Nat, (∀ s ∈ X, s ∉ used) ∧ (∀ s ∈ Y, s ∉ used ∧ (hget H s).live = true) ∧ (∀ s ∈ X, s ∉ Y) ∧ (∀ s ∈ X, (hget H s).stride ≠ none) ∧
      ∀ (R' U : Nat → Prop), (∀ b, R b → R' b) → (∀ s ∈ X, ∀ b o, κ s = some (b, o) → R' b) → (∀ b, U b → ∀ s ∈ Y, ∀ o, κ s ≠ some (b, o)) → ResRep R' w U ks t zs
  | [], used, [], t, zs, h, hc => ⟨[], [], by simp, by simp, by simp, by simp, fun R' U _ _ _ => by
      exact List.length_eq_zero_iff.1 (by simpa using hc.1.symm)⟩
  | [], _, _ :: _, _, _, h, _ => by cases h
  | _ :: _, _, [], _, _, h, _ => by cases h
  | k :: ks, used, c :: cs, t, zs, h, hc => by
    obtain ⟨z, rest, rfl, hz, hrest⟩ := hc.cons
    simp only [outCs, Option.bind_eq_some_iff] at h
    obtain ⟨⟨x, used'⟩, hx, t', ht', h3⟩ := h
    cases h3
    obtain ⟨X, Y, hX, hY, hXY, hXs, hres⟩ := outCs_rep hH ks used' cs t' rest ht' hrest
    unfold outC at hx
    split at hx
    · next q p =>
      obtain ⟨x', hx', h4⟩ := Option.map_eq_some_iff.1 hx
      cases h4
      refine ⟨X, Y, hX, hY, hXY, hXs, fun R' U hR hXR hU => ⟨z, rest, rfl, ?_, hres R' U hR hXR hU⟩⟩
      cases hz with | p _ _ hp => exact (dec_rep hx' hp).ext hR (fun _ _ => rfl)
    · next s slot off len =>
      split at hx
      · next s' es hob =>
        split at hx
        · next hcond =>
          obtain ⟨rfl, hle, hused⟩ := hcond
          cases hx
          have hnot : slot ∉ used := by simpa using hused
          have hob' := hget_some hob
          refine ⟨X, slot :: Y, fun s hs => fun hu => hX s hs (List.mem_cons_of_mem _ hu), fun s' hs' => ?_, fun s' hs' hm => ?_, hXs, fun R' U hR hXR hU => ?_⟩
          · rcases List.mem_cons.1 hs' with rfl | hs'
            · exact ⟨hnot, by rw [hob']; rfl⟩
            · exact ⟨fun hu => (hY s' hs').1 (List.mem_cons_of_mem _ hu), (hY s' hs').2⟩
          · rcases List.mem_cons.1 hm with rfl | hm
            · exact hX s' hs' (List.mem_cons_self ..)
            · exact hXY s' hs' hm
          · cases hz with
            | ownDead _ _ _ _ hd => rw [hob'] at hd; cases hd
            | own _ _ _ cap A s0 g1 g2 g3 g4 =>
              rw [hob'] at g1; simp only [Ob.stride, Option.some.injEq] at g1; subst g1
              have hlen : ((es.drop off).take len).length = len := by simp; omega
              refine ⟨_, rest, rfl, A, cap, by rw [hlen], by rw [hlen]; exact g2, g3, ?_⟩
              by_cases h0 : cap = 0
              · exact .inl ⟨h0, hres R' U hR hXR fun b hb s' hs' => hU b hb s' (List.mem_cons_of_mem _ hs')⟩
              · rcases g4 with g4 | ⟨b, o, k1, k2, c0, t0, fr0, k3, k4⟩
                · exact absurd g4 h0
                · have hobr := hH.obs slot
                  rw [hob'] at hobr
                  rcases hobr with ⟨h1, _⟩ | ⟨b', o', c, ty, fr, h1, h2, h3, h4, h5, h6, h7⟩
                  · rw [k1] at h1; cases h1
                  · rw [k1] at h1; cases h1
                    rw [h2] at k3; cases k3
                    refine .inr ⟨b, o + off * s, c0, t0, fr0, k2, fun hUb => hU b hUb slot (List.mem_cons_self ..) o k1, h2, h3, by rw [Nat.add_mul] at k4; omega, fun i e he => ?_, ?_⟩
                    · have he : ((es.drop off).take len)[i]? = some e := he
                      rw [List.getElem?_take] at he
                      split at he
                      · rw [List.getElem?_drop] at he
                        obtain ⟨q1, q2⟩ := h7 _ e he
                        refine ⟨q1, fun j x hj => ?_⟩
                        obtain ⟨y, hy, hr⟩ := q2 j x hj
                        refine ⟨y, ?_, hr.ext hR (fun _ _ => rfl)⟩
                        have : o + off * s + i * s + j = o + (off + i) * s + j := by rw [Nat.add_mul]; omega
                        rw [this]; exact hy
                      · cases he
                    · refine hres R' _ hR hXR fun b' hb' s' hs' o' hk' => ?_
                      rcases hb' with hb' | rfl
                      · exact hU b' hb' s' (List.mem_cons_of_mem _ hs') o' hk'
                      · have := hH.inj s' slot b' o' o (hY s' hs').2 (by rw [hob']; rfl) hk' k1
                        subst this
                        exact (hY s' hs').1 (List.mem_cons_self ..)
        · cases hx
      · cases hx
    · cases hx
      refine ⟨X, Y, hX, hY, hXY, hXs, fun R' U hR hXR hU => ?_⟩
      cases hz with
      | p _ _ hp =>
        cases hp with
        | v _ _ => exact ⟨_, rest, rfl, none, 0, rfl, Nat.le_refl _, fun _ => rfl, .inl ⟨rfl, hres R' U hR hXR hU⟩⟩
    · next s slot off len =>
      split at hx
      · next s' fz es hob =>
        split at hx
        · next hcond =>
          obtain ⟨rfl, hle, hused⟩ := hcond
          cases hx
          have hnot : slot ∉ used := by simpa using hused
          have hob' := hget_some hob
          refine ⟨slot :: X, Y, fun s' hs' => ?_, fun s' hs' => ⟨fun hu => (hY s' hs').1 (List.mem_cons_of_mem _ hu), (hY s' hs').2⟩, fun s' hs' hm => ?_, fun s' hs' => ?_, fun R' U hR hXR hU => ?_⟩
          · rcases List.mem_cons.1 hs' with rfl | hs'
            · exact hnot
            · exact fun hu => hX s' hs' (List.mem_cons_of_mem _ hu)
          · rcases List.mem_cons.1 hs' with rfl | hs'
            · exact (hY s' hm).1 (List.mem_cons_self ..)
            · exact hXY s' hs' hm
          · rcases List.mem_cons.1 hs' with rfl | hs'
            · rw [hob']; simp [Ob.stride]
            · exact hXs s' hs'
          · refine ⟨z, rest, rfl, ?_, hres R' U hR (fun s' hs' => hXR s' (List.mem_cons_of_mem _ hs')) hU⟩
            exact own_sl hH hob' hz hle hR (fun b o hk => hXR slot (List.mem_cons_self ..) b o hk)
        · cases hx
      · cases hx
    · cases hx
end Go.Ev

namespace Go.Ev
open Go
variable {G : Nat → Option (List PC)}

/-- The values of results, and their cells. -/
def Grouped (P : Program) : List TypeId → List Value → List Value → Prop
  | [], zs, vs => zs = [] ∧ vs = []
  | t :: ts, zs, vs => ∃ (n : Nat) (agg : Bool) (rest : List Value), szOf P t = some n ∧ aggT P t = some agg ∧ n ≤ zs.length ∧ vs = valOf agg (zs.take n) :: rest ∧ (agg = false → n = 1) ∧ Grouped P ts (zs.drop n) rest

def oneOf (vs : List Value) : Value := match vs with | [x] => x | l => .tuple l.toArray

/-- Values, one after the other. -/
def SReps (κ : Kap) (R : Nat → Prop) (h : Nat → Ob) (w : World) (xs : List SV) (ys : List Value) : Prop :=
  xs.length = ys.length ∧ ∀ (i : Nat) (x : SV) (y : Value), xs[i]? = some x → ys[i]? = some y → SRep κ R h w x y

section
variable {κ : Kap} {R : Nat → Prop} {h : Nat → Ob} {w : World}

theorem SReps.nil : SReps κ R h w [] [] := ⟨rfl, fun i x y hx => by simp at hx⟩
theorem SReps.cons {x : SV} {xs : List SV} {y : Value} {ys : List Value} (h1 : SRep κ R h w x y) (h2 : SReps κ R h w xs ys) : SReps κ R h w (x :: xs) (y :: ys) := by
  refine ⟨by simp [h2.1], fun i a b ha hb => ?_⟩
  cases i with
  | zero => cases ha; cases hb; exact h1
  | succ i => exact h2.2 i a b (by simpa using ha) (by simpa using hb)
theorem SReps.uncons {x : SV} {xs : List SV} {ys : List Value} (hr : SReps κ R h w (x :: xs) ys) : ∃ y rest, ys = y :: rest ∧ SRep κ R h w x y ∧ SReps κ R h w xs rest := by
  match ys, hr.1 with
  | y :: rest, hl => exact ⟨y, rest, rfl, hr.2 0 x y rfl rfl, by simpa using hl, fun i a b h1 h2 => hr.2 (i + 1) a b (by simpa using h1) (by simpa using h2)⟩

theorem resVal_rep {xs : List SV} {vs : List Value} (hr : SReps κ R h w xs vs) : VRep κ R h w (resVal xs) (oneOf vs) := by
  match xs, vs, hr with
  | [x], [y], hr => exact hr.2 0 x y rfl rfl
  | [], vs, hr => match vs, hr.1 with | [], _ => exact ⟨[], rfl, rfl, hr.2⟩
  | x :: x' :: xs, [], hr => exact absurd hr.1 (by simp)
  | x :: x' :: xs, [y], hr => exact absurd hr.1 (by simp)
  | x :: x' :: xs, y :: y' :: ys, hr => exact ⟨_, rfl, hr.1, hr.2⟩

/-- A value of its type's form. -/
theorem fits_rep {P : Program} {t : TypeId} {x : SV} {v : Value} (hf : x.fits P t = true) (hr : SRep κ R h w x v) :
    ∃ (n : Nat) (agg : Bool), szOf P t = some n ∧ aggT P t = some agg ∧ v.cells.toList.length = n ∧ v = valOf agg v.cells.toList ∧ (agg = false → n = 1) := by
  unfold SV.fits at hf
  split at hf
  · next n cs h1 h2 =>
    obtain ⟨ys, rfl, hys⟩ := hr
    exact ⟨n, true, h1, h2, by simp only [Value.cells]; rw [← hys.1]; simpa using hf, by simp [Value.cells, valOf], fun e => by cases e⟩
  · next n cs h1 h2 =>
    obtain ⟨ys, rfl, hys⟩ := hr
    exact ⟨n, true, h1, h2, by simp only [Value.cells]; rw [← hys.1]; simpa using hf, by simp [Value.cells, valOf], fun e => by cases e⟩
  · next n c h1 h2 =>
    have hr : CRep κ R h w c v := hr
    have := cells_one hr.oneCell
    have hn : n = 1 := by simpa using hf
    exact ⟨n, false, h1, h2, by rw [this, hn]; rfl, by rw [this]; rfl, fun _ => hn⟩
  · cases hf
end

theorem run_loadVar_of {P : Program} {t : TypeId} {x y : Value} {w : World} (h : (Instr.loadAt t x).run P w = .ok y w) :
    (do loadVar t (← asAddr x) : Sem Value).run P w = .ok y w := by
  unfold Instr.loadAt at h
  rw [Sem.run_bind] at h ⊢
  cases x with
  | pointer a =>
    cases a with
    | some a => exact h
    | none => simp [Instr.sureAddr] at h
  | _ => simp [Instr.sureAddr] at h

/-- How a result is read. -/
def resRead (a : Act) : ResultVar → Sem Value := fun
  | .tmp t => pure (a.tmps.getD t undef)
  | .cell x t => do loadVar t (← asAddr (a.tmps.getD x undef))

theorem run_results {P : Program} {fn : Func} {a : Act} {w : World} {vs : List Value} (h : (fn.results.toList.mapM (resRead a)).run P w = .ok vs w) : (results fn a.tmps).run P w = .ok (oneOf vs) w := by
  unfold results
  rw [Sem.run_bind, arr_mapM]
  have : (fn.results.toList.mapM (fun
    | .tmp t => pure (a.tmps.getD t undef)
    | .cell x t => do loadVar t (← asAddr (a.tmps.getD x undef)) : ResultVar → Sem Value)).run P w = .ok vs w := h
  erw [this]
  simp only [Result.andThen_ok, Sem.run_pure]
  match vs with
  | [] => rfl
  | [x] => rfl
  | x :: y :: l => simp [oneOf]

theorem resVals_rep {ρ : Type} {E : Env} {st : St} : ∀ (rs : List ResultVar) (tys : List TypeId) (K : List SV → Option ρ) (r : ρ), resVals E st rs tys K = some r →
    ∃ xs, K xs = some r ∧ ∀ (κ : Kap) (R : Nat → Prop) (a : Act) (w : World), Rel E.G κ R st.tmps.length (tget st.tmps) (hget st.heap) a w →
      ∃ vs zs : List Value, (rs.mapM (resRead a)).run E.P w = .ok vs w ∧ SReps κ R (hget st.heap) w xs vs ∧ Grouped E.P tys zs vs ∧ ∀ cs, cellsAll xs = some cs → CReps κ R (hget st.heap) w cs zs
  | [], [], K, r, h => ⟨[], h, fun κ R a w hrel => ⟨[], [], rfl, .nil, ⟨rfl, rfl⟩, fun cs hcs => by simp [cellsAll] at hcs; subst hcs; exact ⟨rfl, fun i c y hc => by simp at hc⟩⟩⟩
  | [], _ :: _, _, _, h => by simp [resVals] at h
  | .tmp _ :: _, [], _, _, h => by simp [resVals] at h
  | .cell _ _ :: _, [], _, _, h => by simp [resVals] at h
  | rv :: rs, ty :: tys, K, r, h => by
    have key : ∃ x, x.fits E.P ty = true ∧ (resVals E st rs tys fun l => K (x :: l)) = some r ∧
        ∀ (κ : Kap) (R : Nat → Prop) (a : Act) (w : World), Rel E.G κ R st.tmps.length (tget st.tmps) (hget st.heap) a w → ∃ v, (resRead a rv).run E.P w = .ok v w ∧ SRep κ R (hget st.heap) w x v := by
      cases rv with
      | tmp t =>
        simp only [resVals, Option.bind_eq_some_iff] at h
        obtain ⟨v, hv, x, hx, h⟩ := h
        split at h
        · next hf =>
          refine ⟨x, hf, h, fun κ R a w hrel => ⟨a.tmps.getD t undef, rfl, ?_⟩⟩
          have := operand_rep hrel (x := .tmp t) hv (fun _ _ => rfl)
          cases v with
          | s y => cases hx; exact this
          | tup l => cases hx
          | g _ _ _ => cases hx
        · cases h
      | cell x t =>
        simp only [resVals, Option.bind_eq_some_iff] at h
        obtain ⟨v, hv, h⟩ := h
        split at h
        · next c =>
          obtain ⟨x', rd, hK, hrun⟩ := loadAt_rep h
          split at hK
          · next hf =>
            refine ⟨x', hf, hK, fun κ R a w hrel => ?_⟩
            have hc := operand_rep hrel (x := .tmp x) hv (fun _ _ => rfl)
            obtain ⟨y, hy, hs⟩ := hrun (hget st.heap) κ R w _ (fun _ _ => rfl) hrel.heap hc
            exact ⟨y, run_loadVar_of hy, hs⟩
          · cases hK
        · cases h
    obtain ⟨x, hf, h', hone⟩ := key
    obtain ⟨xs, hK, hrest⟩ := resVals_rep rs tys _ r h'
    refine ⟨x :: xs, hK, fun κ R a w hrel => ?_⟩
    obtain ⟨v, hv, hs⟩ := hone κ R a w hrel
    obtain ⟨vs, zs, h1, h2, h3, h4⟩ := hrest κ R a w hrel
    obtain ⟨n, agg, f1, f2, f3, f4, f5⟩ := fits_rep hf hs
    refine ⟨v :: vs, v.cells.toList ++ zs, ?_, .cons hs h2, ⟨n, agg, vs, f1, f2, by simp only [List.length_append, f3]; omega, ?_, f5, ?_⟩, fun cs hcs => ?_⟩
    · simp only [List.mapM_cons, Sem.run_bind, hv, Result.andThen_ok, h1, Sem.run_pure]
    · rw [List.take_append_of_le_length (by omega), List.take_of_length_le (by omega), ← f4]
    · rw [List.drop_append_of_le_length (by omega), List.drop_of_length_le (by omega)]; exact h3
    · simp only [cellsAll, List.mapM_cons, bind, Option.map_eq_some_iff, Option.bind_eq_some_iff, pure, Option.some.injEq] at hcs
      obtain ⟨l, ⟨c1, hc1, l', hl', rfl⟩, rfl⟩ := hcs
      simp only [List.flatten_cons]
      exact (hs.cells hc1).append (h4 _ (by simp [cellsAll, hl']))

/-- How the machine leaves. -/
def X.conc : X → Exit
  | .normal => .normal
  | .exit id => .exit id
  | .ret => .ret

/-- What a piece of code leaves. -/
def CodePost (E : Env) (st st' : St) (e : X) (κ : Kap) (R : Nat → Prop) (w : World) : Exit → Act → World → Prop := fun e' a' w' =>
  e' = e.conc ∧ ∃ (κ' : Kap) (R' : Nat → Prop), Rel E.G κ' R' st.tmps.length (tget st'.tmps) (hget st'.heap) a' w' ∧ Fr κ R (hget st.heap) w κ' R' (hget st'.heap) w'

/-- A loop, from a round's start. -/
def LoopWp (P : Program) (c : Code) (Q : Exit → Act → World → Prop) (a : Act) (w : World) : Prop :=
  ∀ (b : Frame) (k : List Item) (cs : List Frame), ∃ e a' w', Q e a' w' ∧ Arrives P (lone (b.at a (.code c :: .inLoop c :: k)) cs w) b k cs e a' w'

def Wp (P : Program) (c : Code) (Q : Exit → Act → World → Prop) (a : Act) (w : World) : Prop := match c with
  | .loop b => LoopWp P b Q a w
  | c => c.wp P Q a w

theorem Wp.wp {P : Program} {c : Code} {Q : Exit → Act → World → Prop} {a : Act} {w : World} (h : Wp P c Q a w) : c.wp P Q a w := by
  cases c with
  | loop c => exact fun b k cs => let ⟨e, a', w', hq, harr⟩ := h b k cs; ⟨e, a', w', hq, .of_steps (.one step_loop) harr⟩
  | _ => exact h

theorem loop_round {P : Program} {c : Code} {Q : Exit → Act → World → Prop} {a : Act} {w : World} (h : c.wp P (Exit.then (LoopWp P c Q) Q) a w) : LoopWp P c Q a w := by
  intro b k cs
  obtain ⟨e, a₁, w₁, hq, harr⟩ := h b (.inLoop c :: k) cs
  cases e with
  | normal =>
    obtain ⟨e₂, a₂, w₂, hq₂, harr₂⟩ := hq b k cs
    exact ⟨e₂, a₂, w₂, hq₂, .of_steps (Steps.trans harr (.one step_inLoop)) harr₂⟩
  | exit id => exact ⟨_, a₁, w₁, hq, .pass (x := .inLoop c) rfl (fun _ _ => .inl (by simp)) harr⟩
  | goto l => exact ⟨_, a₁, w₁, hq, .pass (x := .inLoop c) rfl (fun _ _ => .inl (by simp)) harr⟩
  | ret => exact ⟨_, a₁, w₁, hq, .pass (x := .inLoop c) rfl (fun _ _ => .inl (by simp)) harr⟩
  | panic ch => exact ⟨_, a₁, w₁, hq, .pass (x := .inLoop c) rfl (fun _ _ => .inl (by simp)) harr⟩
  | outgrown => exact ⟨_, a₁, w₁, hq, .pass (x := .inLoop c) rfl (fun _ _ => .inl (by simp)) harr⟩

def CodeOK (E : Env) {ρ : Type} (c : Code) (st : St) (K : X → St → Option ρ) (r : ρ) : Prop :=
  ∃ (e : X) (st' : St), K e st' = some r ∧ st'.tmps.length = st.tmps.length ∧ ∀ (κ : Kap) (R : Nat → Prop) (a : Act) (w : World), Rel E.G κ R st.tmps.length (tget st.tmps) (hget st.heap) a w →
    Wp E.P c (CodePost E st st' e κ R w) a w

def void : Nat → Ob := fun _ => .void
def nowhere : Kap := fun _ => none

/-- What a call of f comes to. -/
def FnOK (E : Env) (f : FuncId) (args : List SV) (r : RTup (rks E f)) : Prop :=
  ∀ (R : Nat → Prop) (w : World) (ys : List Value), (∀ b, R b → b < w.heap.size) → GRep E.G R w → SReps nowhere R void w args ys →
    Calls E.P f ys.toArray w fun
      | .returned v, w' => ∃ (R' : Nat → Prop) (zs vs : List Value) (fn : Func), E.P.funcs[f]? = some fn ∧ (∀ b, R b → R' b) ∧ (∀ b, R' b → R b ∨ w.heap.size ≤ b) ∧ (∀ b, R' b → b < w'.heap.size) ∧
          (∀ b, b < w.heap.size → w'.heap[b]? = w.heap[b]?) ∧ w'.os = w.os ∧ w'.tape = w.tape ∧ w'.output = w.output ∧ w.heap.size ≤ w'.heap.size ∧
          ResRep R' w' (fun b => b < w.heap.size ∨ R' b) (rks E f) r zs ∧ Grouped E.P fn.resultTypes.toList zs vs ∧ v = oneOf vs
      | _, _ => False

theorem hget_nil : hget [] = void := by funext i; simp [hget, void]

theorem void_rep {R : Nat → Prop} {w : World} (h1 : ∀ b, R b → b < w.heap.size) (h2 : GRep G R w) : HRep G nowhere R void w :=
  ⟨fun _ => trivial, fun i j b o o' hi => by simp [void, Ob.live] at hi, h1, h2⟩

/-- A frame at its start. -/
theorem init_rel {fn : Func} {args : List SV} {H : List Ob} {κ : Kap} {R : Nat → Prop} {w : World} {ys : List Value} (hH : HRep G κ R (hget H) w) (hs : SReps κ R (hget H) w args ys) :
    Rel G κ R (initSt fn args H).tmps.length (tget (initSt fn args H).tmps) (hget (initSt fn args H).heap) { tmps := ys.toArray ++ Array.replicate (fn.ntmps - ys.toArray.size) undef, defers := [] } w := by
  refine ⟨rfl, by simp [initSt, hs.1], fun i y hy => ?_, hH⟩
  simp only [initSt, tget]
  by_cases hi : i < ys.length
  · rw [Array.getElem?_append_left (by simpa using hi)] at hy
    rw [List.getElem?_append_left (by simpa [hs.1] using hi), List.getElem?_map]
    have hy : ys[i]? = some y := by simpa using hy
    have hlt : i < args.length := by rw [hs.1]; exact hi
    rw [List.getElem?_eq_getElem hlt]
    exact hs.2 i _ y (List.getElem?_eq_getElem hlt) hy
  · rw [List.getElem?_append_right (by simp [hs.1]; omega)]
    cases hx : (List.replicate (fn.ntmps - args.length) (AV.s .dead))[i - (args.map AV.s).length]? with
    | none => trivial
    | some x => have := List.mem_of_getElem? hx; simp at this; rw [this.2]; trivial

/-- What a body leaves is what a call comes to. -/
theorem fn_of_code {E : Env} {f : FuncId} {fn : Func} {c : Code} {args : List SV} {r : RTup (rks E f)} (hf : E.P.funcs[f]? = some fn) (hb : fn.body = some c)
    (hc : CodeOK E c (initSt fn args []) (fun e st => match e with
        | .exit _ => none
        | _ => resVals E st fn.results.toList fn.resultTypes.toList fun vs => (cellsAll vs).bind fun cs => outCs st.heap [] (rks E f) cs) r) : FnOK E f args r := by
  intro R w ys hR hG hs
  obtain ⟨e, st', hK, hlen, hwp⟩ := hc
  refine calls_of_wp hf hb (wp_mono (hwp nowhere R _ w (init_rel (by rw [hget_nil]; exact void_rep hR hG) (by rw [hget_nil]; exact hs))).wp ?_)
  rintro e' a' w' ⟨rfl, κ', R', hrel, hfr⟩
  have key : ∀ (hK : (resVals E st' fn.results.toList fn.resultTypes.toList fun vs => (cellsAll vs).bind fun cs => outCs st'.heap [] (rks E f) cs) = some r), a'.defers = [] ∧ ∃ v, (results fn a'.tmps).run E.P w' = .ok v w' ∧
      (∃ (R' : Nat → Prop) (zs vs : List Value) (fn : Func), E.P.funcs[f]? = some fn ∧ (∀ b, R b → R' b) ∧ (∀ b, R' b → R b ∨ w.heap.size ≤ b) ∧ (∀ b, R' b → b < w'.heap.size) ∧
          (∀ b, b < w.heap.size → w'.heap[b]? = w.heap[b]?) ∧ w'.os = w.os ∧ w'.tape = w.tape ∧ w'.output = w.output ∧ w.heap.size ≤ w'.heap.size ∧
          ResRep R' w' (fun b => b < w.heap.size ∨ R' b) (rks E f) r zs ∧ Grouped E.P fn.resultTypes.toList zs vs ∧ v = oneOf vs) := by
    intro hK
    obtain ⟨xs, hx, hrun⟩ := resVals_rep _ _ _ _ hK
    simp only [Option.bind_eq_some_iff] at hx
    obtain ⟨cs, hcs, hout⟩ := hx
    rw [← hlen] at hrel
    obtain ⟨vs, zs, h1, h2, h3, h4⟩ := hrun κ' R' a' w' hrel
    obtain ⟨X, Y, hX, hY, hXY, hXs, hres⟩ := outCs_rep hrel.heap (rks E f) [] cs r zs hout (h4 cs hcs)
    have hvoid : ∀ s, ((hget (initSt fn args []).heap) s).live = true → False := fun s hl => by simp [initSt, hget, Ob.live] at hl
    refine ⟨hrel.defers, _, run_results h1, fun b => R' b ∨ ∃ s ∈ X, ∃ o, κ' s = some (b, o), zs, vs, fn, hf, fun b hb => .inl (hfr.ext.r b hb), fun b hb => ?_, fun b hb => ?_, fun b hb => hfr.keep b hb (fun s o hl => (hvoid s hl).elim), hfr.os, hfr.tape, hfr.output, hfr.grow, ?_, h3, rfl⟩
    · rcases hb with hb | ⟨s, hs, o, hk⟩
      · rcases hfr.newR b hb with h0 | h0 | ⟨s', o', hl, _⟩
        · exact .inl h0
        · exact .inr h0
        · exact (hvoid s' hl).elim
      · by_cases hl : (hget st'.heap s).live = true
        · rcases hfr.new s b o hl hk with h0 | ⟨s', o', hl', _⟩
          · exact .inr h0
          · exact (hvoid s' hl').elim
        · rcases hfr.newR b ((hrel.heap.obs s).inR (hXs s hs) hl hk) with h0 | h0 | ⟨s', o', hl, _⟩
          · exact .inl h0
          · exact .inr h0
          · exact (hvoid s' hl).elim
    · rcases hb with hb | ⟨s, hs, o, hk⟩
      · exact hrel.heap.old b hb
      · exact (hrel.heap.obs s).block (hXs s hs) hk
    · refine hres _ _ (fun b hb => .inl hb) (fun s hs b o hk => .inr ⟨s, hs, o, hk⟩) (fun b hb s hs o hk => ?_)
      have hl := (hY s hs).2
      rcases hb with hb | hb | ⟨s', hs', o', hk'⟩
      · rcases hfr.new s b o hl hk with h0 | ⟨s', o', hl', _⟩
        · omega
        · exact hvoid s' hl'
      · exact (hrel.heap.obs s).notR hl hk hb
      · by_cases hl' : (hget st'.heap s').live = true
        · have := hrel.heap.inj s' s b o' o hl' hl hk' hk
          subst this
          exact hXY s' hs' hs
        · exact (hrel.heap.obs s).notR hl hk ((hrel.heap.obs s').inR (hXs s' hs') hl' hk')
  cases e with
  | normal => exact key hK
  | ret => exact key hK
  | exit id => cases hK
end Go.Ev

namespace Go.Ev
open Go
variable {G : Nat → Option (List PC)}

theorem mapM_some {α β : Type} {f : α → Option β} : ∀ {l : List α} {r : List β}, l.mapM f = some r → l.length = r.length ∧ ∀ (i : Nat) (x : α) (y : β), l[i]? = some x → r[i]? = some y → f x = some y
  | [], r, h => by simp at h; subst h; exact ⟨rfl, fun i x y hx => by simp at hx⟩
  | a :: l, r, h => by
    simp only [List.mapM_cons, bind, Option.bind_eq_some_iff, pure, Option.some.injEq] at h
    obtain ⟨b, hb, r', hr', rfl⟩ := h
    obtain ⟨h1, h2⟩ := mapM_some hr'
    refine ⟨by simp [h1], fun i x y hx hy => ?_⟩
    cases i with
    | zero => cases hx; cases hy; exact hb
    | succ i => exact h2 i x y (by simpa using hx) (by simpa using hy)

section
variable {κ : Kap} {R Rc : Nat → Prop} {h' : Nat → Ob} {w : World} {H : List Ob}

theorem expC_rep (hH : HRep G κ R h' w) (hR : ∀ b, R b → Rc b) : ∀ (n : Nat) (c : C) (x : PC) (rd : List Reg) (y : Value), expC n H c = some (x, rd) → (∀ q ∈ rd, q.getF h' = q.getF (hget H)) →
    (∀ slot, Reg.obj slot ∈ rd → (h' slot).stride ≠ none → ∀ b o, κ slot = some (b, o) → Rc b) → CRep κ R h' w c y → PRep Rc w x y := by
  intro n
  induction n with
  | zero =>
    intro c x rd y h hrd hRc hc
    unfold expC at h
    split at h
    · cases h; cases hc with | p _ _ hp => exact hp.ext hR (fun _ _ => rfl)
    · cases h
    · next hh => cases hh
    · cases h
  | succ n ih =>
    intro c x rd y h hrd hRc hc
    unfold expC at h
    split at h
    · cases h; cases hc with | p _ _ hp => exact hp.ext hR (fun _ _ => rfl)
    · cases h
    · next n' slot off len hn =>
      cases hn
      split at h
      · next s fz es hob =>
        split at h
        · next hle =>
          cases h
          exact own_sl hH (regs_ob hob (hrd _ (by simp))) hc hle hR (fun b o hk => hRc slot (by simp) (by rw [regs_ob hob (hrd _ (by simp))]; simp [Ob.stride]) b o hk)
        · cases h
      · next s cs hob =>
        split at h
        · next hle =>
          simp only [Option.bind_eq_some_iff] at h
          obtain ⟨l, hl, h⟩ := h
          cases h
          have hob' := regs_ob hob (hrd (.obj slot) (by simp))
          obtain ⟨hlen, hall⟩ := mapM_some hl
          have hlen2 : ((cs.drop (off * s)).take (len * s)).length = len * s := by simp; rw [Nat.add_mul] at hle; omega
          have hl2 : (l.map (·.1)).length = len * s := by simp [← hlen, hlen2]
          obtain ⟨e1, e2, e3⟩ := chunk_get (s := s) len (l.map (·.1)) hl2
          cases hc with
          | ownDead _ _ _ _ hd => rw [hob'] at hd; cases hd
          | own _ _ _ cap A s0 g1 g2 g3 g4 =>
            rw [hob'] at g1; simp only [Ob.stride, Option.some.injEq] at g1; subst g1
            by_cases h0 : len = 0
            · subst h0
              exact .sl s false [] A 0 cap (fun _ _ => undef) 0 0 rfl g2 (fun e => by cases e) g3 (fun e => absurd rfl e) (fun i e he => by simp at he) (fun i e j c he => by simp at he)
            · rcases g4 with g4 | ⟨b, o, k1, k2, k3⟩
              · omega
              · have hobr := hH.obs slot
                rw [hob'] at hobr
                obtain ⟨b', o', c, t, fr, h1, h2, h3, h4, h5, h6⟩ := hobr
                rw [k1] at h1; cases h1
                have hb : Rc b := hRc slot (by simp) (by rw [hob']; simp [Ob.stride]) b o k1
                have hcell : ∀ (i : Nat) (e : List PC) (j : Nat) (x : PC), (chunk s len (l.map (·.1)))[i]? = some e → e[j]? = some x → ∃ y, c[o + off * s + i * s + j]? = some y ∧ PRep Rc w x y := by
                  intro i e j x he hj
                  have hg := flat_get e1 he hj
                  rw [e2, List.getElem?_map] at hg
                  cases hgl : l[i * s + j]? with
                  | none => rw [hgl] at hg; cases hg
                  | some p =>
                    rw [hgl] at hg; cases hg
                    have hlt : i * s + j < ((cs.drop (off * s)).take (len * s)).length := by rw [hlen]; exact (List.getElem?_eq_some_iff.1 hgl).1
                    have hcc := List.getElem?_eq_getElem hlt
                    have hexp := hall _ _ _ hcc hgl
                    have hcs : cs[off * s + (i * s + j)]? = some (((cs.drop (off * s)).take (len * s))[i * s + j]) := by
                      rw [← hcc, List.getElem?_take, if_pos (by rw [← hlen2]; exact hlt), List.getElem?_drop]
                    obtain ⟨y, hy, hr⟩ := h6 _ _ hcs
                    have hmem : ∀ q ∈ p.2, q ∈ (Reg.obj slot :: (l.map (·.2)).flatten) := fun q hq => List.mem_cons_of_mem _ (List.mem_flatten.2 ⟨p.2, List.mem_map.2 ⟨p, List.mem_of_getElem? hgl, rfl⟩, hq⟩)
                    refine ⟨y, ?_, ih _ p.1 p.2 y hexp (fun q hq => hrd q (hmem q hq)) (fun s' hs' => hRc s' (hmem _ hs')) hr⟩
                    have : o + off * s + i * s + j = o + (off * s + (i * s + j)) := by omega
                    rw [this]; exact hy
                refine .sl s false _ A len cap (fun i j => (c[o + off * s + i * s + j]?).getD undef) b (o + off * s) e3.symm g2 (fun e => by cases e) g3 (fun _ => ⟨k2, hb⟩) (fun i e he => ⟨e1 e (List.mem_of_getElem? he), fun j hj => ?_⟩) (fun i e j x he hj => ?_)
                · have hje : j < e.length := by rw [e1 e (List.mem_of_getElem? he)]; exact hj
                  obtain ⟨y, hy, _⟩ := hcell i e j e[j] he (List.getElem?_eq_getElem hje)
                  rw [cell_of_cells h2, hy]; rfl
                · obtain ⟨y, hy, hr⟩ := hcell i e j x he hj
                  rw [hy]; exact hr
        · cases h
      · cases h
    · cases h

theorem expCs_rep (hH : HRep G κ R h' w) (hR : ∀ b, R b → Rc b) : ∀ (cs : List C) (l : List PC) (rd : List Reg) (ys : List Value), expCs H cs = some (l, rd) → (∀ q ∈ rd, q.getF h' = q.getF (hget H)) →
    (∀ slot, Reg.obj slot ∈ rd → (h' slot).stride ≠ none → ∀ b o, κ slot = some (b, o) → Rc b) → CReps κ R h' w cs ys → PReps Rc w l ys
  | [], l, rd, ys, h, _, _, hc => by
    simp only [expCs, Option.some.injEq, Prod.mk.injEq] at h
    obtain ⟨rfl, rfl⟩ := h
    exact ⟨hc.1, fun i c y hx => by simp at hx⟩
  | c :: cs, l, rd, ys, h, hrd, hRc, hc => by
    simp only [expCs, Option.bind_eq_some_iff] at h
    obtain ⟨x, hx, r, hr, h⟩ := h
    cases h
    obtain ⟨y, rest, rfl, h1, h2⟩ := hc.cons
    have p1 := expC_rep hH hR 3 c x.1 x.2 y hx (fun q hq => hrd q (List.mem_append_left _ hq)) (fun s hs => hRc s (List.mem_append_left _ hs)) h1
    have p2 := expCs_rep hH hR cs r.1 r.2 rest hr (fun q hq => hrd q (List.mem_append_right _ hq)) (fun s hs => hRc s (List.mem_append_right _ hs)) h2
    refine ⟨by simp [p2.1], fun i a b ha hb => ?_⟩
    cases i with
    | zero => cases ha; cases hb; exact p1
    | succ i => exact p2.2 i a b (by simpa using ha) (by simpa using hb)

theorem expSV_rep (hH : HRep G κ R h' w) (hR : ∀ b, R b → Rc b) {peek : Bool} {x x' : SV} {rd : List Reg} {y : Value} (h : expSV peek H x = some (x', rd)) (hrd : ∀ q ∈ rd, q.getF h' = q.getF (hget H))
    (hRc : ∀ slot, Reg.obj slot ∈ rd → (h' slot).stride ≠ none → ∀ b o, κ slot = some (b, o) → Rc b) (hc : SRep κ R h' w x y) : SRep nowhere Rc void w x' y := by
  unfold expSV at h
  split at h
  · cases h
  · next slot off =>
    split at h
    · split at h
      · next s cs hob =>
        simp only [Option.bind_eq_some_iff] at h
        obtain ⟨l, hl, h⟩ := h
        cases h
        have hob' := regs_ob hob (hrd (.obj slot) (by simp))
        have hcs := pcs_rep hl
        have hc : CRep κ R h' w (.bp slot off) y := hc
        cases hc with
        | bpDead _ _ _ hd => rw [hob'] at hd; cases hd
        | bp _ _ b o s' g1 g2 =>
          have hobr := hH.obs slot
          rw [hob'] at hobr
          obtain ⟨b', o', c, t, fr, h1, h2, h3, h4, h5, h6⟩ := hobr
          rw [g2] at h1; cases h1
          have hj : ∀ (j : Nat) (x : PC), l[j]? = some x → ∃ z, c[o + j]? = some z ∧ PRep Rc w x z := by
            intro j x hx
            obtain ⟨z, hz, hr⟩ := h6 j (.p x) (by rw [hcs]; simp [hx])
            cases hr with | p _ _ hp => exact ⟨z, hz, hp.ext hR (fun _ _ => rfl)⟩
          refine CRep.rp l off b o (fun j => (c[o + j]?).getD undef) (hRc slot (by simp) (by rw [hob']; simp [Ob.stride]) b o g2) (fun j x hx => ?_) (fun j x hx => ?_)
          · obtain ⟨z, hz, _⟩ := hj j x hx
            rw [cell_of_cells h2, hz]; rfl
          · obtain ⟨z, hz, hr⟩ := hj j x hx
            rw [hz]; exact hr
      · cases h
    · cases h
  · next f cs =>
    split at h
    · next he =>
      cases h
      have hc : CRep κ R h' w (.clo f cs) y := hc
      have : cs = [] := by simpa using he
      subst this
      cases hc with
      | clo _ _ vs hl _ =>
        have : vs = [] := List.length_eq_zero_iff.1 hl.symm
        subst this
        exact CRep.clo f [] [] rfl (fun i c v hx => by simp at hx)
    · cases h
  · next c _ _ =>
    simp only [Option.bind_eq_some_iff] at h
    obtain ⟨p, hp, h⟩ := h
    cases h
    exact CRep.p _ _ (expC_rep hH hR 3 c p.1 p.2 y hp hrd hRc hc)
  · next l =>
    cases h
    obtain ⟨ys, rfl, hys⟩ := hc
    exact ⟨ys, rfl, hys.ext hR (fun _ _ => rfl)⟩
  · next cs =>
    simp only [Option.bind_eq_some_iff] at h
    obtain ⟨p, hp, h⟩ := h
    cases h
    obtain ⟨ys, rfl, hys⟩ := hc
    exact ⟨ys, rfl, expCs_rep hH hR cs p.1 p.2 ys hp hrd hRc hys⟩

theorem expSVs_rep (hH : HRep G κ R h' w) (hR : ∀ b, R b → Rc b) {peek : Bool} : ∀ (xs xs' : List SV) (rd : List Reg) (ys : List Value), expSVs peek H xs = some (xs', rd) → (∀ q ∈ rd, q.getF h' = q.getF (hget H)) →
    (∀ slot, Reg.obj slot ∈ rd → (h' slot).stride ≠ none → ∀ b o, κ slot = some (b, o) → Rc b) → SReps κ R h' w xs ys → SReps nowhere Rc void w xs' ys
  | [], xs', rd, ys, h, _, _, hc => by
    simp only [expSVs, Option.some.injEq, Prod.mk.injEq] at h
    obtain ⟨rfl, rfl⟩ := h
    exact ⟨hc.1, fun i c y hx => by simp at hx⟩
  | x :: xs, xs', rd, ys, h, hrd, hRc, hc => by
    simp only [expSVs, Option.bind_eq_some_iff] at h
    obtain ⟨z, hz, r, hr, h⟩ := h
    cases h
    obtain ⟨y, rest, rfl, h1, h2⟩ := hc.uncons
    exact .cons (expSV_rep hH hR hz (fun q hq => hrd q (List.mem_append_left _ hq)) (fun s hs => hRc s (List.mem_append_left _ hs)) h1)
      (expSVs_rep hH hR xs r.1 r.2 rest hr (fun q hq => hrd q (List.mem_append_right _ hq)) (fun s hs => hRc s (List.mem_append_right _ hs)) h2)
end

/-- Results are read under another set of blocks. -/
theorem flat_enc {R R2 : Nat → Prop} {w : World} {q : Kind} {x : q.T} {z : Value} (hf : RK.flat (.rd q) x = true) (h : PRep R w (q.enc x) z) : PRep R2 w (q.enc x) z := by
  cases q with
  | list s => simp [RK.flat] at hf
  | any =>
    have key : ∀ x : PC, RK.flat (.rd .any) x = true → PRep R w x z → PRep R2 w x z := by
      intro x hx hr
      cases x with
      | v v => cases hr with | v _ h1 => exact .v _ h1
      | sl _ _ _ => cases hx
    exact key x hf h
  | int k => cases h with | v _ h1 => exact .v _ h1
  | bool => cases h with | v _ h1 => exact .v _ h1
  | str => cases h with | v _ h1 => exact .v _ h1

theorem ResRep.weaken {R R2 : Nat → Prop} {w : World} : ∀ {ks : List RK} {t : RTup ks} {zs : List Value} {U : Nat → Prop}, ((∀ b, R b → R2 b) ∨ flatR ks t = true) → ResRep R w U ks t zs → ResRep R2 w U ks t zs
  | [], _, _, _, _, h => h
  | .rd q :: ks, t, zs, U, hor, h => by
    obtain ⟨z, rest, rfl, h1, h2⟩ := h
    refine ⟨z, rest, rfl, ?_, h2.weaken (hor.imp id fun e => ?_)⟩
    · rcases hor with hor | hor
      · exact h1.ext hor (fun _ _ => rfl)
      · simp only [flatR, Bool.and_eq_true] at hor
        exact flat_enc hor.1 h1
    · simp only [flatR, Bool.and_eq_true] at e
      exact e.2
  | .fr s :: ks, t, zs, U, hor, h => by
    obtain ⟨z, rest, rfl, A, cap, g1, g2, g3, g4⟩ := h
    have hor2 : (∀ b, R b → R2 b) ∨ flatR ks t.2 = true := hor.imp id fun e => by simp only [flatR, Bool.and_eq_true] at e; exact e.2
    refine ⟨z, rest, rfl, A, cap, g1, g2, g3, ?_⟩
    rcases g4 with ⟨g4, g5⟩ | ⟨b, o, c, ty, fr, k1, k2, k3, k4, k5, k6, k7⟩
    · exact .inl ⟨g4, g5.weaken hor2⟩
    · refine .inr ⟨b, o, c, ty, fr, k1, k2, k3, k4, k5, fun i e he => ⟨(k6 i e he).1, fun j x hx => ?_⟩, k7.weaken hor2⟩
      obtain ⟨y, hy, hr⟩ := (k6 i e he).2 j x hx
      refine ⟨y, hy, ?_⟩
      rcases hor with hor | hor
      · exact hr.ext hor (fun _ _ => rfl)
      · simp only [flatR, Bool.and_eq_true, RK.flat] at hor
        have h1 := List.all_eq_true.1 hor.1 e (List.mem_of_getElem? he)
        have h2 := List.all_eq_true.1 h1 x (List.mem_of_getElem? hx)
        cases x with
        | v v => cases hr with | v _ h3 => exact .v _ h3
        | sl _ _ _ => cases h2

/-- A new slot over what is there already. -/
theorem step_adopt {κ : Kap} {R : Nat → Prop} {h : Nat → Ob} {w : World} (hH : HRep G κ R h w) {nb : Nat} (hv : h nb = .void) (p : Option (Nat × Nat)) (ob : Ob)
    (hfree : ∀ b o, p = some (b, o) → ∀ s o', (h s).live = true → κ s ≠ some (b, o'))
    (hob : Ext κ R h w (updN κ nb p) R (updN h nb ob) w → ObRep (updN κ nb p) R (updN h nb ob) w nb ob) :
    HRep G (updN κ nb p) R (updN h nb ob) w ∧ Ext κ R h w (updN κ nb p) R (updN h nb ob) w := by
  have hext : Ext κ R h w (updN κ nb p) R (updN h nb ob) w := ⟨fun _ hx => hx, fun _ _ => rfl, fun b c t fr hb => ⟨c, fr, hb, rfl⟩, fun s => by
    by_cases hs : s = nb
    · exact .inl (by rw [hs]; exact hv)
    · by_cases hd : h s = .dead
      · exact .inr (.inl (by simp [updN, hs, hd]))
      · exact .inr (.inr ⟨by simp [updN, hs], by simp [updN, hs], hd⟩)⟩
  refine ⟨hH.step hext (fun s => s = nb) (fun s hs => ⟨by simp [updN, hs], by simp [updN, hs], fun _ _ _ _ => rfl, fun hl b o hk => (hH.obs s).notR hl hk⟩) (fun s hs => by subst hs; simpa [updN] using hob hext)
    (fun i j b o o' hi hl1 hl2 hk1 hk2 => ?_) hH.old, hext⟩
  subst hi
  by_cases hj : j = i
  · exact hj.symm
  · simp only [updN, if_true, if_neg hj] at hk1 hk2 hl2
    exact absurd hk2 (hfree b o hk1 j o' hl2)

theorem putsF_append (h : Nat → Ob) (a b : List Wr) : putsF h (a ++ b) = putsF (putsF h a) b := by simp [putsF]

theorem inC_le {nb : Nat} (k : RK) (x : k.T) : nb ≤ (inC nb k x).2.2 := by cases k <;> simp [inC]
theorem inCs_le : ∀ {ks : List RK} {nb : Nat} {t : RTup ks}, nb ≤ (inCs nb ks t).2.2
  | [], _, _ => Nat.le_refl _
  | k :: ks, nb, t => by
    simp only [inCs]
    exact Nat.le_trans (inC_le k t.1) inCs_le

theorem import_rep {w : World} {R : Nat → Prop} : ∀ (ks : List RK) (t : RTup ks) (zs : List Value) (U : Nat → Prop) (nb : Nat) (κ : Kap) (h : Nat → Ob), ResRep R w U ks t zs → HRep G κ R h w →
    (∀ s, nb ≤ s → s < (inCs nb ks t).2.2 → h s = .void) → (∀ s b o, (h s).live = true → κ s = some (b, o) → U b) → (∀ b, R b → U b) →
    ∃ κ' : Kap, HRep G κ' R (putsF h (inCs nb ks t).2.1) w ∧ Ext κ R h w κ' R (putsF h (inCs nb ks t).2.1) w ∧ CReps κ' R (putsF h (inCs nb ks t).2.1) w (inCs nb ks t).1 zs ∧
      ∀ s b o, (putsF h (inCs nb ks t).2.1 s).live = true → κ' s = some (b, o) → ((h s).live = true ∧ κ s = some (b, o)) ∨ ¬ U b
  | [], t, zs, U, nb, κ, h, hr, hH, _, _, _ => by
    have hr : zs = [] := hr
    subst hr
    exact ⟨κ, hH, .refl .., ⟨rfl, fun i c y hx => by simp [inCs] at hx⟩, fun s b o hl hk => .inl ⟨hl, hk⟩⟩
  | .rd q :: ks, t, zs, U, nb, κ, h, hr, hH, hv, hU, hRU => by
    obtain ⟨z, rest, rfl, h1, h2⟩ := hr
    obtain ⟨κ', e1, e2, e3, e4⟩ := import_rep ks t.2 rest U nb κ h h2 hH hv hU hRU
    refine ⟨κ', e1, e2, ?_, e4⟩
    refine ⟨congrArg (· + 1) e3.1, fun i c y hc hy => ?_⟩
    cases i with
    | zero => cases hc; cases hy; exact .p _ _ (h1.ext e2.r e2.cells)
    | succ i => exact e3.2 i c y hc hy
  | .fr s :: ks, t, zs, U, nb, κ, h, hr, hH, hv, hU, hRU => by
    obtain ⟨z, rest, rfl, A, cap, g1, g2, g3, g4⟩ := hr
    have hle : nb + 1 ≤ (inCs (nb + 1) ks t.2).2.2 := inCs_le
    have hvn : h nb = .void := hv nb (Nat.le_refl _) (by simp only [inCs, inC]; omega)
    have hvs : ∀ s', nb + 1 ≤ s' → s' < (inCs (nb + 1) ks t.2).2.2 → updN h nb (.arr s false t.1) s' = .void := fun s' h1 h2 => by
      simp only [updN]; rw [if_neg (by omega)]; exact hv s' (by omega) (by simpa only [inCs, inC] using h2)
    have hput : putsF h (inCs nb (.fr s :: ks) t).2.1 = putsF (updN h nb (.arr s false t.1)) (inCs (nb + 1) ks t.2).2.1 := by
      simp only [inCs, inC]
      rw [putsF_append]; rfl
    have fin : ∀ (κ1 : Kap) (U1 : Nat → Prop), HRep G κ1 R (updN h nb (.arr s false t.1)) w → Ext κ R h w κ1 R (updN h nb (.arr s false t.1)) w → ResRep R w U1 ks t.2 rest →
        (∀ s' b o, (updN h nb (.arr s false t.1) s').live = true → κ1 s' = some (b, o) → U1 b) → (∀ b, U b → U1 b) → CRep κ1 R (updN h nb (.arr s false t.1)) w (.own nb 0 (t.1 : List (List PC)).length) z →
        (∀ s' b o, (updN h nb (.arr s false t.1) s').live = true → κ1 s' = some (b, o) → ((h s').live = true ∧ κ s' = some (b, o)) ∨ ¬ U b) →
        ∃ κ' : Kap, HRep G κ' R (putsF h (inCs nb (.fr s :: ks) t).2.1) w ∧ Ext κ R h w κ' R (putsF h (inCs nb (.fr s :: ks) t).2.1) w ∧ CReps κ' R (putsF h (inCs nb (.fr s :: ks) t).2.1) w (inCs nb (.fr s :: ks) t).1 (z :: rest) ∧
          ∀ s' b o, (putsF h (inCs nb (.fr s :: ks) t).2.1 s').live = true → κ' s' = some (b, o) → ((h s').live = true ∧ κ s' = some (b, o)) ∨ ¬ U b := by
      intro κ1 U1 hH1 hE1 hr1 hU1 hUU hc1 hb1
      rw [hput]
      obtain ⟨κ', e1, e2, e3, e4⟩ := import_rep ks t.2 rest U1 (nb + 1) κ1 _ hr1 hH1 hvs hU1 (fun b hb => hUU b (hRU b hb))
      refine ⟨κ', e1, hE1.trans e2, ⟨congrArg (· + 1) e3.1, fun i c y hc hy => ?_⟩, fun s' b o hl hk => ?_⟩
      · cases i with
        | zero => cases hc; cases hy; exact hc1.ext e2
        | succ i => exact e3.2 i c y hc hy
      · rcases e4 s' b o hl hk with ⟨h1, h2⟩ | h1
        · exact hb1 s' b o h1 h2
        · exact .inr fun hu => h1 (hUU b hu)
    rcases g4 with ⟨g4, g5⟩ | ⟨b, o, c, ty, fr, k1, k2, k3, k4, k5, k6, k7⟩
    · have hnil : (t.1 : List (List PC)) = [] := List.length_eq_zero_iff.1 (by omega)
      obtain ⟨hH1, hE1⟩ := step_adopt hH hvn none (.arr s false t.1) (fun b o e => by cases e) (fun _ => .inl ⟨by simp [updN], hnil⟩)
      refine fin _ U hH1 hE1 g5 (fun s' b o hl hk => ?_) (fun _ hb => hb) ?_ (fun s' b o hl hk => ?_)
      · by_cases hs : s' = nb
        · simp [updN, hs] at hk
        · simp only [updN, if_neg hs] at hl hk; exact hU s' b o hl hk
      · rw [g1]; exact .own nb 0 _ cap A s (by simp [updN, Ob.stride]) g2 g3 (.inl g4)
      · by_cases hs : s' = nb
        · simp [updN, hs] at hk
        · simp only [updN, if_neg hs] at hl hk; exact .inl ⟨hl, hk⟩
    · obtain ⟨hH1, hE1⟩ := step_adopt hH hvn (some (b, o)) (.arr s false t.1) (fun b' o' e s' o2 hl hk => by cases e; exact k2 (hU s' b o2 hl hk)) (fun hext => .inr ⟨b, o, c, ty, fr, by simp [updN], k3, k4, (fun e => by cases e), fun _ hR => k2 (hRU b hR), Nat.le_trans (Nat.add_le_add_left (Nat.mul_le_mul_right s g2) o) k5, fun i e he => ⟨(k6 i e he).1, fun j x hx => by
            obtain ⟨y, hy, hr⟩ := (k6 i e he).2 j x hx
            exact ⟨y, hy, hr⟩⟩⟩)
      refine fin _ (fun x => U x ∨ x = b) hH1 hE1 k7 (fun s' b' o' hl hk => ?_) (fun _ hb => .inl hb) ?_ (fun s' b' o' hl hk => ?_)
      · by_cases hs : s' = nb
        · simp only [updN, if_pos hs, Option.some.injEq, Prod.mk.injEq] at hk; exact .inr hk.1.symm
        · simp only [updN, if_neg hs] at hl hk; exact .inl (hU s' b' o' hl hk)
      · rw [g1]; refine .own nb 0 _ cap A s (by simp [updN, Ob.stride]) g2 g3 (.inr ⟨b, o, by simp [updN], by simp [k1], c, ty, fr, k3, by simpa using k5⟩)
      · by_cases hs : s' = nb
        · simp only [updN, if_pos hs, Option.some.injEq, Prod.mk.injEq] at hk; exact .inr (by rw [← hk.1]; exact k2)
        · simp only [updN, if_neg hs] at hl hk; exact .inl ⟨hl, hk⟩
end Go.Ev

namespace Go.Ev
open Go
variable {G : Nat → Option (List PC)}

theorem CReps.take {κ : Kap} {R : Nat → Prop} {h : Nat → Ob} {w : World} {cs : List C} {ys : List Value} (hr : CReps κ R h w cs ys) (n : Nat) : CReps κ R h w (cs.take n) (ys.take n) := by
  simpa using hr.drop 0 n
theorem CReps.dropAll {κ : Kap} {R : Nat → Prop} {h : Nat → Ob} {w : World} {cs : List C} {ys : List Value} (hr : CReps κ R h w cs ys) (n : Nat) : CReps κ R h w (cs.drop n) (ys.drop n) :=
  ⟨by simp [hr.1], fun i c y h1 h2 => hr.2 (n + i) c y (by simpa using h1) (by simpa using h2)⟩

theorem group_rep {P : Program} {κ : Kap} {R : Nat → Prop} {h : Nat → Ob} {w : World} : ∀ (tys : List TypeId) (cs : List C) (zs : List Value) (vals : List SV) (vs : List Value), groupC P tys cs = some vals → Grouped P tys zs vs → CReps κ R h w cs zs → SReps κ R h w vals vs
  | [], [], zs, vals, vs, h1, h2, _ => by
    cases h1
    obtain ⟨_, rfl⟩ := h2
    exact .nil
  | [], _ :: _, _, _, _, h1, _, _ => by cases h1
  | t :: ts, cs, zs, vals, vs, h1, h2, h3 => by
    simp only [groupC, Option.bind_eq_some_iff] at h1
    obtain ⟨n, hn, agg, ha, h1⟩ := h1
    split at h1
    · simp only [Option.bind_eq_some_iff, Option.some.injEq] at h1
      obtain ⟨v, hv, rest, hrest, rfl⟩ := h1
      obtain ⟨n', agg', rest', g1, g2, g3, rfl, g5, g6⟩ := h2
      rw [hn] at g1; cases g1
      rw [ha] at g2; cases g2
      exact .cons (mkC_rep hv (h3.take n)).1 (group_rep ts _ _ rest rest' hrest g6 (h3.dropAll n))
    · cases h1

theorem args_rep {E : Env} {κ : Kap} {R : Nat → Prop} {tm : List AV} {t' : Nat → AV} {h' : Nat → Ob} {a : Act} {w : World} (hrel : Rel E.G κ R tm.length t' h' a w) : ∀ (xs : List Operand) (as : List SV), (xs.mapM fun y => (operand tm y).bind AV.sv) = some as →
    (∀ x ∈ xs, ∀ t, x = .tmp t → t' t = tget tm t) → SReps κ R h' w as (xs.map a.eval)
  | [], as, h, _ => by simp at h; subst h; exact .nil
  | x :: xs, as, h, hal => by
    simp only [List.mapM_cons, bind, Option.bind_eq_some_iff, pure, Option.some.injEq] at h
    obtain ⟨v, ⟨u, hu, hv⟩, rest, hrest, rfl⟩ := h
    refine .cons ?_ (args_rep hrel xs rest hrest fun y hy => hal y (List.mem_cons_of_mem _ hy))
    have := operand_rep hrel hu (hal x (List.mem_cons_self ..))
    cases u with
    | s z => cases hv; exact this
    | tup l => cases hv
    | g _ _ _ => cases hv

theorem SReps.append {κ : Kap} {R : Nat → Prop} {h : Nat → Ob} {w : World} {a b : List SV} {x y : List Value} (h1 : SReps κ R h w a x) (h2 : SReps κ R h w b y) : SReps κ R h w (a ++ b) (x ++ y) := by
  refine ⟨by simp [h1.1, h2.1], fun i c z hc hz => ?_⟩
  by_cases hi : i < x.length
  · rw [List.getElem?_append_left (by rw [h1.1]; exact hi)] at hc
    rw [List.getElem?_append_left hi] at hz
    exact h1.2 i c z hc hz
  · rw [List.getElem?_append_right (by rw [h1.1]; omega), h1.1] at hc
    rw [List.getElem?_append_right (by omega)] at hz
    exact h2.2 _ c z hc hz

theorem run_call {P : Program} {w : World} {a : Act} {x : Operand} {args : Array Operand} {ts : Array TypeId} {f : FuncId} {fn : Func} {vs : List Value} {dst : Option Tmp} {ty : TypeId} {pos : String} {after : Array Edge} {guard : Option (Nat × Bool)}
    (hx : a.eval x = .func (.func f) #[] vs.toArray) (hf : P.funcs[f]? = some fn) (hn : (fn.name == "runtime.NumGoroutine") = false) {c : Code} (hb : fn.body = some c) :
    (execOp a.eval ⟨dst, .call { callee := .value x, args, argTypes := ts }, ty, pos, after, guard⟩).run P w = .ok (.enter f (args.toList.map a.eval ++ vs).toArray) w := by
  have harr : args.map a.eval ++ vs.toArray = (args.toList.map a.eval ++ vs).toArray := by
    apply Array.ext'; simp
  have hn' : ¬ fn.name = "runtime.NumGoroutine" := by simpa using hn
  simp [execOp, resolve, hx, Deferred.ofValue, invoke, callFunc, hf, hn', hb, harr]

theorem run_indexByte (P : Program) (w : World) (s : ByteArray) (k : Int) : (Extern.BytealgIndexByte.indexByte #[.string s, .int .u8 k]).run P w =
    .ok (.int .i64 (match (List.range s.size).find? fun i => s[i]! == k.toNat.toUInt8 with | some i => (i : Int) | none => -1)) w := by
  show ((match (List.range s.size).find? fun i => s[i]! == k.toNat.toUInt8 with
    | some i => pure (goInt i)
    | none => pure (goInt (-1)) : Sem Value)).run P w = _
  cases (List.range s.size).find? fun i => s[i]! == k.toNat.toUInt8 <;> rfl
theorem run_count (P : Program) (w : World) (s : ByteArray) (k : Int) : (Extern.BytealgCount.count #[.string s, .int .u8 k]).run P w =
    .ok (.int .i64 (s.foldl (fun (n : Int) x => if x == k.toNat.toUInt8 then n + 1 else n) ((0 : Nat) : Int))) w := rfl

theorem run_extern {P : Program} {w : World} {a : Act} {x : Operand} {args : Array Operand} {ts : Array TypeId} {f : FuncId} {fn : Func} {dst : Option Tmp} {ty : TypeId} {pos : String} {after : Array Edge} {guard : Option (Nat × Bool)}
    (hx : a.eval x = .func (.func f) #[] #[]) (hf : P.funcs[f]? = some fn) (hn : (fn.name == "runtime.NumGoroutine") = false) (hb : fn.body = none) (h1 : Extern.findNext fn = none) {e : Array Value → Sem Value} (h2 : Extern.find fn = some e) :
    (execOp a.eval ⟨dst, .call { callee := .value x, args, argTypes := ts }, ty, pos, after, guard⟩).run P w = ((e (args.map a.eval)).run P w).andThen fun v w' => .ok (.value v) w' := by
  have hn' : ¬ fn.name = "runtime.NumGoroutine" := by simpa using hn
  simp [execOp, resolve, hx, Deferred.ofValue, invoke, callFunc, hf, hn', hb, h1, h2]

section ops
variable {ρ : Type} {E : Env} {tm : List AV} {H : List Ob} {K : Out → Option ρ} {r : ρ}
variable {call : (f : FuncId) → List SV → Option (RTup (rks E f))} {body : Code → St → (X → St → Option ρ) → Option ρ}
variable {dst : Option Tmp} {ty : TypeId} {pos : String} {after : Array Edge} {guard : Option (Nat × Bool)}

theorem callV_sim (hcall : ∀ f as r, call f as = some r → natPre E f as = true → FnOK E f as r) (hbody : ∀ c st K r, body c st K = some r → CodeOK E c st K r) {x : Operand} {args : Array Operand} {ts : Array TypeId} {f : FuncId} {fn : Func} {c : Code} {caps : List C} {as : List SV}
    (hx : operand tm x = some (.s (.one (.clo f caps)))) (has : (args.toList.mapM fun y => (operand tm y).bind AV.sv) = some as) (hf : E.P.funcs[f]? = some fn) (hnm : (fn.name == "runtime.NumGoroutine") = false) (hb : fn.body = some c)
    (h : callV E call body H H.length f (as ++ caps.map .one) K = some r) :
    ∃ out, K out = some r ∧ SimF E ⟨dst, .call { callee := .value x, args, argTypes := ts }, ty, pos, after, guard⟩ tm.length (tget tm) (hget H) H.length out := by
  have hargs : ∀ (t' : Nat → AV) (h' : Nat → Ob) (κ : Kap) (R : Nat → Prop) (a : Act) (w : World) (out : Out), Alike ⟨dst, .call { callee := .value x, args, argTypes := ts }, ty, pos, after, guard⟩ tm.length (tget tm) t' (hget H) h' H.length out → Rel E.G κ R tm.length t' h' a w →
      ∃ vs : List Value, a.eval x = .func (.func f) #[] vs.toArray ∧ SReps κ R h' w (as ++ caps.map .one) (args.toList.map a.eval ++ vs) := by
    intro t' h' κ R a w out hal hrel
    have hc : CRep κ R h' w (.clo f caps) (a.eval x) := operand_rep hrel hx (hal.opnd (by simp [Op.operands, Call.operands]))
    generalize hy : a.eval x = y at hc
    cases hc with
    | clo _ _ vs hl hv =>
      refine ⟨vs, rfl, (args_rep hrel _ as has fun z hz => hal.opnd (by simp [Op.operands, Call.operands]; exact .inr (by simpa using hz))).append ⟨by simp [hl], fun i u y hu hy => ?_⟩⟩
      rw [List.getElem?_map] at hu
      cases hcp : caps[i]? with
      | none => rw [hcp] at hu; cases hu
      | some cc => rw [hcp] at hu; cases hu; exact hv i cc y hcp hy
  unfold callV at h
  by_cases hin : (E.inl f || !((as ++ caps.map SV.one).all (shSV (E.peek f) H))) = true
  case neg =>
    rw [if_neg hin] at h
    obtain ⟨⟨as', rd⟩, hexp, h⟩ := Option.bind_eq_some_iff.1 h
    simp only at h
    simp only [Option.bind_eq_some_iff] at h
    obtain ⟨res, hres, h⟩ := h
    have hpre : natPre E f as' = true := by
      cases hc : natPre E f as' with
      | true => rfl
      | false => rw [hc] at h; cases h
    rw [hpre] at h
    simp only [cond_true] at h
    have hflat : rd.isEmpty = true ∨ flatR (rks E f) res = true := by
      cases hc : (rd.isEmpty || flatR (rks E f) res) with
      | true => simpa using hc
      | false => rw [hc] at h; cases h
    have h : (((E.P.funcs[f]?).bind fun fn => groupC E.P fn.resultTypes.toList (inCs H.length (rks E f) res).1).bind fun vs => K ⟨resVal vs, (inCs H.length (rks E f) res).2.1, rd, (inCs H.length (rks E f) res).2.2⟩) = some r := by
      cases hc : (rd.isEmpty || flatR (rks E f) res) with
      | true => rw [hc] at h; exact h
      | false => rw [hc] at h; cases h
    simp only [Option.bind_eq_some_iff, hf, Option.some.injEq] at h
    obtain ⟨vals, ⟨fn', hfn', hg⟩, hK⟩ := h
    subst hfn'
    refine ⟨_, hK, fun t' h' κ R a w hal hrel next Q hn => ?_⟩
    obtain ⟨vs, hev, hsr⟩ := hargs t' h' κ R a w _ hal hrel
    unfold Oper.wp
    rw [run_call hev hf hnm hb, Oper.upon_enter]
    have hH := hrel.heap
    let Rc : Nat → Prop := fun b => R b ∨ (rd ≠ [] ∧ ∃ slot o, κ slot = some (b, o) ∧ (h' slot).stride ≠ none)
    have hRc : ∀ b, Rc b → b < w.heap.size := by
      rintro b (hb' | ⟨_, slot, o, hk, hst⟩)
      · exact hH.old b hb'
      · exact (hH.obs slot).block hst hk
    have hsr' := expSVs_rep (Rc := Rc) hH (fun b hb' => .inl hb') _ as' rd _ hexp hal.regs (fun slot hs hst b o hk => .inr ⟨fun e => (by rw [e] at hs; cases hs), slot, o, hk, hst⟩) hsr
    refine Calls.mono (hcall f as' res hres hpre Rc w _ hRc (hH.glob.ext (fun b hb' => .inl hb') (fun _ _ => rfl)) hsr') ?_
    intro e w' he
    cases e with
    | panicked chain => exact he.elim
    | outgrown => exact he.elim
    | returned v =>
      obtain ⟨R', zs, vs', fn', hfn', q1, q2, q3, q4, q5, q6, q7, q8, q9, q10, rfl⟩ := he
      rw [hf] at hfn'; cases hfn'
      let R2 : Nat → Prop := fun b => R b ∨ (R' b ∧ w.heap.size ≤ b)
      have hext : Ext κ R h' w κ R2 h' w' := ⟨fun b hb' => .inl hb', fun b hb' => q4 b (hH.old b hb'), fun b c t fr hb' => ⟨c, fr, by rw [q4 b (Array.getElem?_eq_some_iff.1 hb').1]; exact hb', rfl⟩, (Ext.refl κ R h' w).slot⟩
      have hblk : ∀ s b o, (h' s).live = true → κ s = some (b, o) → b < w.heap.size := fun s b o hl hk => (hH.obs s).block (Ob.live_stride hl) hk
      have hH1 : HRep E.G κ R2 h' w' := hH.step hext (fun _ => False) (fun s _ => ⟨rfl, rfl, fun hst b o hk => q4 b ((hH.obs s).block hst hk), fun hl b o hk hR2 => by
          rcases hR2 with hR2 | ⟨_, hR2⟩
          · exact (hH.obs s).notR hl hk hR2
          · have := hblk s b o hl hk; omega⟩) (fun _ hs => hs.elim) (fun _ _ _ _ _ hs => hs.elim) (fun b hb' => by
          rcases hb' with hb' | ⟨hb', _⟩
          · exact Nat.lt_of_lt_of_le (hH.old b hb') q8
          · exact q3 b hb')
      have hweak : ResRep R2 w' (fun b => b < w.heap.size ∨ R' b) (rks E f) res zs := by
        refine q9.weaken ?_
        rcases hflat with hflat | hflat
        · refine .inl fun b hb' => ?_
          have hrd : rd = [] := by simpa using hflat
          rcases q2 b hb' with h0 | h0
          · rcases h0 with h0 | ⟨h0, _⟩
            · exact .inl h0
            · exact absurd hrd h0
          · exact .inr ⟨hb', h0⟩
        · exact .inr hflat
      obtain ⟨κ', i1, i2, i3, i4⟩ := import_rep (rks E f) res zs _ H.length κ h' hweak hH1 (fun s h1 h2 => hal.free s h1 h2) (fun s b o hl hk => .inl (hblk s b o hl hk)) (fun b hb' => by
        rcases hb' with hb' | ⟨hb', _⟩
        · exact .inl (hH.old b hb')
        · exact .inr hb')
      have hfr : Fr κ R h' w κ' R2 (putsF h' (inCs H.length (rks E f) res).2.1) w' := ⟨hext.trans i2, q5, q6, q7, q8, fun b hb' _ => q4 b hb', fun s b o hl hk => by
          rcases i4 s b o hl hk with ⟨h1, h2⟩ | h1
          · exact .inr ⟨s, o, h1, h2⟩
          · refine .inl ?_
            rcases Nat.lt_or_ge b w.heap.size with h0 | h0
            · exact absurd (Or.inl h0) h1
            · exact h0, fun b hb' => by
          rcases hb' with hb' | ⟨_, hb'⟩
          · exact .inl hb'
          · exact .inr (.inl hb')⟩
      exact hn κ' R2 _ w' (hrel.put hfr.ext i1 dst (resVal_rep (group_rep _ _ _ _ _ hg q10 i3))) hfr
  case pos =>
    rw [if_pos hin] at h
    simp only [Option.bind_eq_some_iff, hf, Option.some.injEq] at h
    obtain ⟨fn', rfl, c', hc', h⟩ := h
    have hcc : c' = c := by first | exact Option.some.inj (hc'.symm.trans hb) | exact hc'.symm
    subst hcc
    obtain ⟨e, st', hKb, hlen, hwp⟩ := hbody _ _ _ _ h
    have key : ∀ (hKb : (resVals E st' fn.results.toList fn.resultTypes.toList fun vs => K ⟨resVal vs, [.heap st'.heap], [.all], st'.heap.length⟩) = some r) (he : e.conc = .normal ∨ e.conc = .ret),
        ∃ out, K out = some r ∧ SimF E ⟨dst, .call { callee := .value x, args, argTypes := ts }, ty, pos, after, guard⟩ tm.length (tget tm) (hget H) H.length out := by
      intro hKb he
      obtain ⟨xs, hK, hrun⟩ := resVals_rep _ _ _ _ hKb
      refine ⟨_, hK, fun t' h' κ R a w hal hrel next Q hn => ?_⟩
      have hh' : h' = hget H := by
        have := hal.regs .all (by simp)
        simpa [Reg.getF] using this
      subst hh'
      obtain ⟨vs, hev, hsr⟩ := hargs t' (hget H) κ R a w _ hal hrel
      unfold Oper.wp
      rw [run_call hev hf hnm hb, Oper.upon_enter]
      refine calls_of_wp hf hb (wp_mono (hwp κ R _ w (init_rel hrel.heap hsr)).wp ?_)
      rintro e' a' w' ⟨rfl, κ', R', hrel', hfr⟩
      have fin : a'.defers = [] ∧ ∃ v, (results fn a'.tmps).run E.P w' = .ok v w' ∧ next (a.put dst v) w' := by
        rw [← hlen] at hrel'
        obtain ⟨vs', zs, r1, r2, r3, r4⟩ := hrun κ' R' a' w' hrel'
        exact ⟨hrel'.defers, _, run_results r1, hn κ' R' _ w' (hrel.put hfr.ext hrel'.heap dst (resVal_rep r2)) hfr⟩
      rcases he with he | he <;> rw [he] <;> exact fin
    cases e with
    | normal => exact key hKb (.inl rfl)
    | ret => exact key hKb (.inr rfl)
    | exit id => cases hKb

theorem extern_sim {x : Operand} {args : Array Operand} {ts : Array TypeId} {f : FuncId} {fn : Func} {as : List SV} {v : AV}
    (hx : operand tm x = some (.s (.one (.clo f [])))) (has : (args.toList.mapM fun y => (operand tm y).bind AV.sv) = some as) (hf : E.P.funcs[f]? = some fn) (hnm : (fn.name == "runtime.NumGoroutine") = false) (hb : fn.body = none) (ho : fn.origin = "")
    (h : externV fn.name (as.map .s) = some v) :
    RunF E ⟨dst, .call { callee := .value x, args, argTypes := ts }, ty, pos, after, guard⟩ tm.length (tget tm) (hget H) H.length ⟨v, [], [], H.length⟩ := by
  refine .of_value fun t' h' κ R a w hal hrel => ?_
  have hc : CRep κ R h' w (.clo f []) (a.eval x) := operand_rep hrel hx (hal.opnd (by simp [Op.operands, Call.operands]))
  have hsr := args_rep hrel _ as has fun z hz => hal.opnd (by simp [Op.operands, Call.operands]; exact .inr (by simpa using hz))
  generalize hy : a.eval x = y at hc
  cases hc with
  | clo _ _ vs hl _ =>
    have : vs = [] := List.length_eq_zero_iff.1 hl.symm
    subst this
    have hone : ∀ (s : ByteArray) (k : Int), as.map AV.s = [.s (.one (.p (.v (.string s)))), .s (.one (.p (.v (.int .u8 k))))] → args.map a.eval = #[.string s, .int .u8 k] := by
      intro s k hs
      have has' : as = [.one (.p (.v (.string s))), .one (.p (.v (.int .u8 k)))] := by
        match as, hs with
        | [a1, a2], hs => simp only [List.map_cons, List.map_nil, List.cons.injEq, AV.s.injEq, and_true] at hs; rw [hs.1, hs.2]
      subst has'
      obtain ⟨y1, r1, e1, h1, h2⟩ := hsr.uncons
      obtain ⟨y2, r2, rfl, h3, h4⟩ := h2.uncons
      have : r2 = [] := List.length_eq_zero_iff.1 h4.1.symm
      subst this
      have z1 : y1 = .string s := by have h1 : CRep κ R h' w _ y1 := h1; cases h1 with | p _ _ hp => cases hp; rfl
      have z2 : y2 = .int .u8 k := by have h3 : CRep κ R h' w _ y2 := h3; cases h3 with | p _ _ hp => cases hp; rfl
      apply Array.ext'
      rw [Array.toList_map, e1, z1, z2]
    unfold externV at h
    split at h
    · next hname =>
      split at h
      · next s k hs =>
        cases h
        have hv := hone s k hs
        refine ⟨_, ?_, rep_ints ..⟩
        have hfn : Extern.findNext fn = none := by unfold Extern.findNext; rw [hname, ho]; rfl
        have hfi : Extern.find fn = some Extern.BytealgIndexByte.indexByte := by unfold Extern.find; rw [hname]; rfl
        rw [run_extern hy hf hnm hb hfn hfi, hv, run_indexByte]; rfl
      · cases h
    · split at h
      · next hname =>
        split at h
        · next s k hs =>
          cases h
          have hv := hone s k hs
          refine ⟨_, ?_, rep_ints ..⟩
          have hfn : Extern.findNext fn = none := by unfold Extern.findNext; rw [hname, ho]; rfl
          have hfi : Extern.find fn = some Extern.BytealgCount.count := by unfold Extern.find; rw [hname]; rfl
          rw [run_extern hy hf hnm hb hfn hfi, hv, run_count]; rfl
        · cases h
      · cases h

/-- Every operation. -/
theorem opV_sim (hcall : ∀ f as r, call f as = some r → natPre E f as = true → FnOK E f as r) (hbody : ∀ c st K r, body c st K = some r → CodeOK E c st K r) {o : Oper} (h : opV E call body tm H H.length o K = some r) :
    ∃ out, K out = some r ∧ SimF E o tm.length (tget tm) (hget H) H.length out := by
  have hrest : ∀ h : aop E tm H H.length o K = some r, ∃ out, K out = some r ∧ SimF E o tm.length (tget tm) (hget H) H.length out := fun h =>
    let ⟨out, h1, h2⟩ := aop_sim h
    ⟨out, h1, h2.sim⟩
  obtain ⟨dst, op, ty, pos, after, guard⟩ := o
  unfold opV at h
  split at h
  · next x args ts hop =>
    simp only at hop
    subst hop
    simp only [Option.bind_eq_some_iff] at h
    obtain ⟨fv, hfv, as, has, h⟩ := h
    split at h
    · next f caps =>
      simp only [Option.bind_eq_some_iff] at h
      obtain ⟨fn, hf, h⟩ := h
      split at h
      · cases h
      · next hnm =>
        have hnm : (fn.name == "runtime.NumGoroutine") = false := by simpa using hnm
        split at h
        · next c hb => exact callV_sim hcall hbody hfv has hf hnm hb h
        · next hb =>
          split at h
          · next hcond =>
            simp only [Bool.and_eq_true, List.isEmpty_iff, beq_iff_eq] at hcond
            obtain ⟨hcaps, hor⟩ := hcond
            subst hcaps
            simp only [Option.bind_eq_some_iff] at h
            obtain ⟨v, hv, hK⟩ := h
            exact ⟨_, hK, (extern_sim hfv has hf hnm hb hor hv).sim⟩
          · cases h
    · cases h
  · rw [aopF_eq] at h; exact hrest h
end ops
end Go.Ev

namespace Go.Ev
open Go

theorem splice_comm {α : Type} (l x y : List α) (o o' : Nat) (h : apart o x.length o' y.length = true) (h1 : o + x.length ≤ l.length) (h2 : o' + y.length ≤ l.length) : splice (splice l o x) o' y = splice (splice l o' y) o x := by
  have e1 := splice_length l x o h1
  have e2 := splice_length l y o' h2
  simp only [apart, Bool.or_eq_true, decide_eq_true_eq] at h
  apply List.ext_getElem?
  intro j
  rw [splice_get _ _ _ _ (by omega), splice_get _ _ _ _ (by omega), splice_get _ _ _ _ (by omega), splice_get _ _ _ _ (by omega)]
  by_cases ha : o ≤ j ∧ j < o + x.length
  · rw [if_neg (by omega), if_pos ha, if_pos ha]
  · by_cases hb : o' ≤ j ∧ j < o' + y.length
    · rw [if_pos hb, if_neg ha, if_pos hb]
    · rw [if_neg hb, if_neg ha, if_neg ha, if_neg hb]

theorem splice_off {α : Type} (l x : List α) (o o' n : Nat) (h : apart o' n o x.length = true) (h1 : o + x.length ≤ l.length) : ((splice l o x).drop o').take n = (l.drop o').take n := by
  simp only [apart, Bool.or_eq_true, decide_eq_true_eq] at h
  apply List.ext_getElem?
  intro j
  rw [List.getElem?_take, List.getElem?_take]
  split
  · rw [List.getElem?_drop, List.getElem?_drop, splice_get _ _ _ _ h1, if_neg (by omega)]
  · rfl

/-- What a write leaves of an object. -/
def Ob.wr (ob : Ob) (off : Nat) (x : List C) : Ob := match ob with
  | .box s cs => if off + x.length ≤ cs.length then .box s (splice cs off x) else .box s cs
  | o => o

theorem putF_box (h : Nat → Ob) (slot off : Nat) (x : List C) : Wr.putF h (.box slot off x) = updN h slot ((h slot).wr off x) := by
  simp only [Wr.putF, Ob.wr]
  cases hf : h slot with
  | box s cs =>
    simp only
    split
    · rfl
    · funext i; by_cases hi : i = slot
      · simp [updN, hi, hf]
      · simp [updN, hi]
  | void => funext i; by_cases hi : i = slot <;> simp [updN, hi, hf]
  | dead => funext i; by_cases hi : i = slot <;> simp [updN, hi, hf]
  | arr _ _ _ => funext i; by_cases hi : i = slot <;> simp [updN, hi, hf]

theorem putF_obj (h : Nat → Ob) (slot : Nat) (o : Ob) : Wr.putF h (.obj slot o) = updN h slot o := rfl

theorem updN_comm {α : Type} (f : Nat → α) {i j : Nat} (h : i ≠ j) (x y : α) : updN (updN f i x) j y = updN (updN f j y) i x := by
  funext k
  simp only [updN]
  by_cases h1 : k = j
  · subst h1; simp [Ne.symm h]
  · simp [h1]
theorem updN_ne {α : Type} (f : Nat → α) {i j : Nat} (h : j ≠ i) (x : α) : updN f i x j = f j := by simp [updN, h]
theorem updN_eq {α : Type} (f : Nat → α) (i : Nat) (x : α) : updN f i x i = x := by simp [updN]
theorem updN_again {α : Type} (f : Nat → α) (i : Nat) (x y : α) : updN (updN f i x) i y = updN f i y := by
  funext k; simp only [updN]; split <;> rfl

theorem wr_comm (ob : Ob) {o o' : Nat} {x y : List C} (h : apart o x.length o' y.length = true) : (ob.wr o x).wr o' y = (ob.wr o' y).wr o x := by
  cases ob with
  | box s l =>
    by_cases h1 : o + x.length ≤ l.length
    · by_cases h2 : o' + y.length ≤ l.length
      · simp only [Ob.wr, if_pos h1, if_pos h2]
        rw [splice_length _ _ _ h1, splice_length _ _ _ h2, if_pos h2, if_pos h1, splice_comm l x y o o' h h1 h2]
      · simp only [Ob.wr, if_pos h1, if_neg h2]
        rw [splice_length _ _ _ h1, if_neg h2]
    · by_cases h2 : o' + y.length ≤ l.length
      · simp only [Ob.wr, if_neg h1, if_pos h2]
        rw [splice_length _ _ _ h2, if_neg h1]
      · simp only [Ob.wr, if_neg h1, if_neg h2]
  | void => rfl
  | dead => rfl
  | arr _ _ _ => rfl

theorem off_get {r : Reg} {w : Wr} (h : r.off w = true) (f : Nat → Ob) : r.getF (w.putF f) = r.getF f := by
  cases r with
  | all => cases w <;> simp [Reg.off] at h
  | obj s =>
    cases w with
    | box s' o cs =>
      have : s ≠ s' := by simpa [Reg.off] using h
      simp only [Reg.getF, putF_box]; rw [updN_ne _ this]
    | obj s' o =>
      have : s ≠ s' := by simpa [Reg.off] using h
      simp only [Reg.getF, putF_obj]; rw [updN_ne _ this]
    | heap H => simp [Reg.off] at h
  | box s o n =>
    cases w with
    | heap H => simp [Reg.off] at h
    | obj s' ob =>
      have : s ≠ s' := by simpa [Reg.off] using h
      simp only [Reg.getF, putF_obj, boxGetF]; rw [updN_ne _ this]
    | box s' o' cs =>
      simp only [Reg.getF, putF_box, boxGetF]
      by_cases hs : s = s'
      · subst hs
        have h : apart o n o' cs.length = true := by simpa [Reg.off] using h
        rw [updN_eq]
        cases hf : f s with
        | box st l =>
          by_cases hin : o' + cs.length ≤ l.length
          · simp only [Ob.wr, if_pos hin]
            rw [splice_length _ _ _ hin, splice_off _ _ _ _ _ h hin]
          · simp only [Ob.wr, if_neg hin]
        | void => rfl
        | dead => rfl
        | arr a b c => rfl
      · rw [updN_ne _ hs]

theorem off_comm {a b : Wr} (h : a.off b = true) (f : Nat → Ob) : b.putF (a.putF f) = a.putF (b.putF f) := by
  cases a with
  | heap H => simp [Wr.off] at h
  | obj s o =>
    cases b with
    | heap H => simp [Wr.off] at h
    | obj s' o' =>
      have : s ≠ s' := by simpa [Wr.off] using h
      simp only [putF_obj]; exact updN_comm _ this _ _
    | box s' o' cs =>
      have : s ≠ s' := by simpa [Wr.off] using h
      simp only [putF_obj, putF_box]; rw [updN_ne _ (Ne.symm this)]; exact updN_comm _ this _ _
  | box s o cs =>
    cases b with
    | heap H => simp [Wr.off] at h
    | obj s' o' =>
      have : s ≠ s' := by simpa [Wr.off] using h
      simp only [putF_obj, putF_box]; rw [updN_ne _ this]; exact updN_comm _ this _ _
    | box s' o' cs' =>
      simp only [putF_box]
      by_cases hs : s = s'
      · subst hs
        have h : apart o cs.length o' cs'.length = true := by simpa [Wr.off] using h
        rw [updN_eq, updN_eq, updN_again, updN_again, wr_comm _ h]
      · rw [updN_ne _ (Ne.symm hs), updN_ne _ hs]; exact updN_comm _ hs _ _

theorem off_gets {r : Reg} : ∀ {ws : List Wr}, (∀ w ∈ ws, r.off w = true) → ∀ f : Nat → Ob, r.getF (putsF f ws) = r.getF f
  | [], _, _ => rfl
  | w :: ws, h, f => by
    have : putsF f (w :: ws) = putsF (w.putF f) ws := rfl
    rw [this, off_gets (fun x hx => h x (List.mem_cons_of_mem _ hx)), off_get (h w (List.mem_cons_self ..))]

theorem comm_one {a : Wr} : ∀ {ws : List Wr}, (∀ w ∈ ws, a.off w = true) → ∀ f : Nat → Ob, putsF (a.putF f) ws = a.putF (putsF f ws)
  | [], _, _ => rfl
  | w :: ws, h, f => by
    have e1 : putsF (a.putF f) (w :: ws) = putsF (w.putF (a.putF f)) ws := rfl
    have e2 : putsF f (w :: ws) = putsF (w.putF f) ws := rfl
    rw [e1, e2, off_comm (h w (List.mem_cons_self ..)), comm_one (fun x hx => h x (List.mem_cons_of_mem _ hx))]

theorem comm_all : ∀ {as bs : List Wr}, (∀ a ∈ as, ∀ b ∈ bs, a.off b = true) → ∀ f : Nat → Ob, putsF (putsF f as) bs = putsF (putsF f bs) as
  | [], _, _, _ => rfl
  | a :: as, bs, h, f => by
    have e1 : putsF f (a :: as) = putsF (a.putF f) as := rfl
    have e2 : putsF (putsF f bs) (a :: as) = putsF (a.putF (putsF f bs)) as := rfl
    rw [e1, e2, comm_all (fun x hx => h x (List.mem_cons_of_mem _ hx)), comm_one (h a (List.mem_cons_self ..))]
end Go.Ev

namespace Go.Ev
open Go

/-- What an operation has done. -/
structure Evt where
  v : AV
  lg : Log
  deriving Inhabited

/-- A state as functions. -/
abbrev FS := (Nat → AV) × (Nat → Ob)

def app (N : Nat) (s : FS) (e : Evt) : FS := (putTF N s.1 e.lg.dst e.v, putsF s.2 e.lg.wr)
def runE (N : Nat) (es : List Evt) (s : FS) : FS := es.foldl (app N) s

/-- What an operation does in all states alike. -/
def OpDo (E : Env) (ops : Array Oper) (o : Oper) (N : Nat) (s : FS) (e : Evt) : Prop :=
  e.lg.dst = o.dst ∧ ∀ (t' : Nat → AV) (h' : Nat → Ob) (κ : Kap) (R : Nat → Prop) (a : Act) (w : World), (∀ x ∈ opTmps ops o, t' x = s.1 x) → (∀ q ∈ e.lg.rd, q.getF h' = q.getF s.2) → Rel E.G κ R N t' h' a w →
    ∀ (next : Act → World → Prop) (Q : Exit → Act → World → Prop),
      (∀ (κ' : Kap) (R' : Nat → Prop) (y : Value) (w' : World), Rel E.G κ' R' N (putTF N t' o.dst e.v) (putsF h' e.lg.wr) (a.put o.dst y) w' → Fr κ R h' w κ' R' (putsF h' e.lg.wr) w' → next (a.put o.dst y) w') →
      if Region.wanted o (yielded ops a.tmps) = true then o.wp E.P a w next Q else next (a.put o.dst undef) w

theorem tget_put (tm : List AV) (dst : Option Tmp) (v : AV) : tget (putT tm dst v) = putTF tm.length (tget tm) dst v := by
  cases dst with
  | none => rfl
  | some d =>
    funext i
    simp only [putT, putTF, tget, List.getElem?_set]
    by_cases h : d = i
    · subst h
      by_cases h2 : d < tm.length
      · simp [h2]
      · simp [h2]
    · simp [h, Ne.symm h]

theorem putT_length (tm : List AV) (dst : Option Tmp) (v : AV) : (putT tm dst v).length = tm.length := by cases dst <;> simp [putT]

theorem hget_put (H : List Ob) (w : Wr) : hget (w.put H) = w.putF (hget H) := by
  cases w with
  | heap H' => rfl
  | box slot off x =>
    simp only [Wr.put, Wr.putF]
    cases hs : H[slot]? with
    | none => simp [hget, hs]
    | some ob =>
      have hg : hget H slot = ob := hget_some hs
      rw [hg]
      cases ob with
      | box s cs =>
        simp only
        split
        · funext i
          have hlt : slot < H.length := (List.getElem?_eq_some_iff.1 hs).1
          simp only [hget, List.getElem?_set]
          by_cases hi : slot = i
          · subst hi; simp [hlt]
          · simp [hi, Ne.symm hi]
        · rfl
      | void => rfl
      | dead => rfl
      | arr _ _ _ => rfl
  | obj slot o =>
    funext i
    simp only [Wr.put, Wr.putF]
    split
    · next hlt =>
      simp only [hget, List.getElem?_set]
      by_cases hi : slot = i
      · subst hi; simp [hlt]
      · simp [hi, Ne.symm hi]
    · next hge =>
      simp only [hget]
      by_cases h1 : i < H.length
      · rw [List.getElem?_append_left h1, if_neg (by omega)]
      · rw [List.getElem?_append_right (by omega)]
        by_cases h2 : i - H.length < slot - H.length
        · rw [List.getElem?_append_left (by simpa using h2), List.getElem?_replicate, if_pos h2, if_neg (by omega), List.getElem?_eq_none (by omega)]; rfl
        · rw [List.getElem?_append_right (by simpa using h2)]
          simp only [List.length_replicate]
          by_cases h3 : i = slot
          · subst h3; simp
          · rw [if_neg h3, List.getElem?_eq_none (l := [o]) (by simp; omega), List.getElem?_eq_none (l := H) (by omega)]

theorem hget_puts : ∀ (ws : List Wr) (H : List Ob), hget (puts H ws) = putsF (hget H) ws
  | [], _ => rfl
  | w :: ws, H => by
    have e1 : puts H (w :: ws) = puts (w.put H) ws := rfl
    have e2 : putsF (hget H) (w :: ws) = putsF (w.putF (hget H)) ws := rfl
    rw [e1, e2, hget_puts ws, hget_put]

theorem set_same {α : Type} {l : List α} {i : Nat} {x : α} (h : l[i]? = some x) : l.set i x = l := by
  apply List.ext_getElem?
  intro j
  rw [List.getElem?_set]
  by_cases hij : i = j
  · subst hij
    have := (List.getElem?_eq_some_iff.1 h).1
    rw [if_pos rfl, if_pos this, h]
  · simp [hij]

section
variable {ρ : Type} {E : Env} {r : ρ} {call : (f : FuncId) → List SV → Option (RTup (rks E f))} {body : Code → St → (X → St → Option ρ) → Option ρ}

/-- An operation that is carried out. -/
theorem do_run {ops : Array Oper} {o : Oper} {tm : List AV} {H : List Ob} {out : Out} (hs : SimF E o tm.length (tget tm) (hget H) H.length out)
    (hw : ∀ (t' : Nat → AV) (h' : Nat → Ob) (κ : Kap) (R : Nat → Prop) (a : Act) (w : World), (∀ x ∈ opTmps ops o, t' x = tget tm x) → Rel E.G κ R tm.length t' h' a w → Region.wanted o (yielded ops a.tmps) = true) :
    OpDo E ops o tm.length (tget tm, hget H) ⟨out.v, ⟨o.dst, out.rd ++ (List.range' H.length (out.nb - H.length)).map .obj, out.wr⟩⟩ := by
  refine ⟨rfl, fun t' h' κ R a w ht hr hrel next Q hn => ?_⟩
  rw [if_pos (hw t' h' κ R a w ht hrel)]
  refine hs t' h' κ R a w ⟨fun x hx => ht x (List.mem_append_left _ hx), fun q hq => hr q (List.mem_append_left _ hq), fun s h1 h2 => ?_⟩ hrel next Q hn
  have := hr (.obj s) (List.mem_append_right _ (List.mem_map.2 ⟨s, by rw [List.mem_range'_1]; omega, rfl⟩))
  simp only [Reg.getF, RegValF.obj.injEq] at this
  rw [this]
  simp [hget, List.getElem?_eq_none h1]

/-- An operation that is passed over. -/
theorem do_pass {ops : Array Oper} {o : Oper} {tm : List AV} {H : List Ob}
    (hw : ∀ (t' : Nat → AV) (h' : Nat → Ob) (κ : Kap) (R : Nat → Prop) (a : Act) (w : World), (∀ x ∈ opTmps ops o, t' x = tget tm x) → Rel E.G κ R tm.length t' h' a w → ¬ Region.wanted o (yielded ops a.tmps) = true) :
    OpDo E ops o tm.length (tget tm, hget H) ⟨.tup [], ⟨o.dst, [], []⟩⟩ := by
  refine ⟨rfl, fun t' h' κ R a w ht hr hrel next Q hn => ?_⟩
  rw [if_neg (hw t' h' κ R a w ht hrel)]
  exact hn κ R undef w (hrel.put (Ext.refl ..) hrel.heap o.dst ⟨[], rfl, rfl, fun i x y h => by simp at h⟩) (Fr.refl ..)

theorem guard_val {ops : Array Oper} {o : Oper} {g : Tmp × Bool} {j : Nat} {want : Bool} (hg : o.guard = some (j, want)) (h : guardTmp ops o = some g) {tm : List AV} {v : AV} (hv : tm[g.1]? = some v) :
    g.2 = want ∧ ∀ (t' : Nat → AV) (h' : Nat → Ob) (κ : Kap) (R : Nat → Prop) (a : Act) (w : World), (∀ x ∈ opTmps ops o, t' x = tget tm x) → Rel E.G κ R tm.length t' h' a w → ∃ y, VRep κ R h' w v y ∧ yielded ops a.tmps j = match y with | .bool b => some b | _ => none := by
  unfold guardTmp at h
  rw [hg] at h
  simp only [Option.map_eq_some_iff] at h
  obtain ⟨t, ht, rfl⟩ := h
  refine ⟨rfl, fun t' h' κ R a w hal hrel => ?_⟩
  have hmem : t ∈ opTmps ops o := by
    unfold opTmps
    refine List.mem_append_right _ ?_
    unfold guardTmp
    rw [hg]
    simp [ht]
  have hlt : t < a.tmps.size := by rw [hrel.size]; exact (List.getElem?_eq_some_iff.1 hv).1
  have := hrel.tmps t a.tmps[t] (Array.getElem?_eq_getElem hlt)
  rw [hal t hmem] at this
  have htg : tget tm t = v := by simp only at hv; simp [tget, hv]
  rw [htg] at this
  refine ⟨_, this, ?_⟩
  unfold yielded
  rw [ht]
  simp only [Option.bind_some, Array.getElem?_eq_getElem hlt]
  cases a.tmps[t] <;> rfl

theorem opsV_sim (hcall : ∀ f as r, call f as = some r → natPre E f as = true → FnOK E f as r) (hbody : ∀ c st K r, body c st K = some r → CodeOK E c st K r) {ops : Array Oper} {K : List AV → List Ob → List Log → Option ρ} :
    ∀ (rest : List Oper) (tm : List AV) (H : List Ob) (lg : List Log), opsV E call body ops rest tm H lg K = some r →
    ∃ (es : List Evt) (tm' : List AV) (H' : List Ob), K tm' H' (lg ++ es.map (·.lg)) = some r ∧ tm'.length = tm.length ∧ es.length = rest.length ∧ (tget tm', hget H') = runE tm.length es (tget tm, hget H) ∧
      ∀ (i : Nat) (o : Oper) (e : Evt), rest[i]? = some o → es[i]? = some e → OpDo E ops o tm.length (runE tm.length (es.take i) (tget tm, hget H)) e
  | [], tm, H, lg, h => ⟨[], tm, H, by simpa [opsV] using h, rfl, rfl, rfl, fun i o e ho => by simp at ho⟩
  | o :: rest, tm, H, lg, h => by
    have hrun : ∀ (hr : (opV E call body tm H H.length o fun out => opsV E call body ops rest (putT tm o.dst out.v) (puts H out.wr) (lg ++ [⟨o.dst, out.rd ++ (List.range' H.length (out.nb - H.length)).map .obj, out.wr⟩]) K) = some r)
        (hw : ∀ (t' : Nat → AV) (h' : Nat → Ob) (κ : Kap) (R : Nat → Prop) (a : Act) (w : World), (∀ x ∈ opTmps ops o, t' x = tget tm x) → Rel E.G κ R tm.length t' h' a w → Region.wanted o (yielded ops a.tmps) = true),
        ∃ (es : List Evt) (tm' : List AV) (H' : List Ob), K tm' H' (lg ++ es.map (·.lg)) = some r ∧ tm'.length = tm.length ∧ es.length = (o :: rest).length ∧ (tget tm', hget H') = runE tm.length es (tget tm, hget H) ∧
          ∀ (i : Nat) (o' : Oper) (e : Evt), (o :: rest)[i]? = some o' → es[i]? = some e → OpDo E ops o' tm.length (runE tm.length (es.take i) (tget tm, hget H)) e := by
      intro hr hw
      obtain ⟨out, hK, hsim⟩ := opV_sim hcall hbody hr
      obtain ⟨es, tm', H', k1, k2, k3, k4, k5⟩ := opsV_sim hcall hbody rest _ _ _ hK
      rw [putT_length, tget_put, hget_puts] at k4
      simp only [putT_length, tget_put, hget_puts] at k5
      refine ⟨⟨out.v, ⟨o.dst, out.rd ++ (List.range' H.length (out.nb - H.length)).map .obj, out.wr⟩⟩ :: es, tm', H', by simpa using k1, k2.trans (putT_length ..), by simp [k3], k4, fun i o' e ho he => ?_⟩
      cases i with
      | zero => cases ho; cases he; exact do_run hsim hw
      | succ i => exact k5 i o' e (by simpa using ho) (by simpa using he)
    have hpass : ∀ (hr : (opsV E call body ops rest (putT tm o.dst (.tup [])) H (lg ++ [⟨o.dst, [], []⟩]) K) = some r)
        (hw : ∀ (t' : Nat → AV) (h' : Nat → Ob) (κ : Kap) (R : Nat → Prop) (a : Act) (w : World), (∀ x ∈ opTmps ops o, t' x = tget tm x) → Rel E.G κ R tm.length t' h' a w → ¬ Region.wanted o (yielded ops a.tmps) = true),
        ∃ (es : List Evt) (tm' : List AV) (H' : List Ob), K tm' H' (lg ++ es.map (·.lg)) = some r ∧ tm'.length = tm.length ∧ es.length = (o :: rest).length ∧ (tget tm', hget H') = runE tm.length es (tget tm, hget H) ∧
          ∀ (i : Nat) (o' : Oper) (e : Evt), (o :: rest)[i]? = some o' → es[i]? = some e → OpDo E ops o' tm.length (runE tm.length (es.take i) (tget tm, hget H)) e := by
      intro hr hw
      obtain ⟨es, tm', H', k1, k2, k3, k4, k5⟩ := opsV_sim hcall hbody rest _ _ _ hr
      rw [putT_length, tget_put] at k4
      simp only [putT_length, tget_put] at k5
      refine ⟨⟨.tup [], ⟨o.dst, [], []⟩⟩ :: es, tm', H', by simpa using k1, k2.trans (putT_length ..), by simp [k3], k4, fun i o' e ho he => ?_⟩
      cases i with
      | zero => cases ho; cases he; exact do_pass hw
      | succ i => exact k5 i o' e (by simpa using ho) (by simpa using he)
    unfold opsV at h
    simp only at h
    split at h
    · next hg => exact hrun h (fun t' h' κ R a w _ _ => by simp [Region.wanted, hg])
    · next gw hg =>
      obtain ⟨j, want⟩ := gw
      simp only [Option.bind_eq_some_iff] at h
      obtain ⟨g, hgt, v, hv, h⟩ := h
      obtain ⟨hw, hval⟩ := guard_val (E := E) hg hgt hv
      have hyes : ∀ b : Bool, v = .s (.one (.p (.v (.bool b)))) → b = want → ∀ (t' : Nat → AV) (h' : Nat → Ob) (κ : Kap) (R : Nat → Prop) (a : Act) (w : World), (∀ x ∈ opTmps ops o, t' x = tget tm x) → Rel E.G κ R tm.length t' h' a w → Region.wanted o (yielded ops a.tmps) = true := by
        intro b hvb hb t' h' κ R a w h1 h2
        obtain ⟨y, hy, hyl⟩ := hval t' h' κ R a w h1 h2
        have := val_rep (v := v) (x := .bool b) (by rw [hvb]; rfl) hy
        subst this; subst hb
        simp only [Region.wanted, hg]
        rw [hyl]; simp
      have hno : ∀ b : Bool, v = .s (.one (.p (.v (.bool b)))) → b ≠ want → ∀ (t' : Nat → AV) (h' : Nat → Ob) (κ : Kap) (R : Nat → Prop) (a : Act) (w : World), (∀ x ∈ opTmps ops o, t' x = tget tm x) → Rel E.G κ R tm.length t' h' a w → ¬ Region.wanted o (yielded ops a.tmps) = true := by
        intro b hvb hb t' h' κ R a w h1 h2
        obtain ⟨y, hy, hyl⟩ := hval t' h' κ R a w h1 h2
        have := val_rep (v := v) (x := .bool b) (by rw [hvb]; rfl) hy
        subst this
        simp only [Region.wanted, hg]
        rw [hyl]; simpa using hb
      split at h
      · next l =>
        refine hpass h fun t' h' κ R a w h1 h2 => ?_
        obtain ⟨y, hy, hyl⟩ := hval t' h' κ R a w h1 h2
        obtain ⟨ys, rfl, _⟩ := hy
        simp only [Region.wanted, hg]
        rw [hyl]; simp
      · next b =>
        cases b with
        | true =>
          have hset : tm.set g.1 (boolV true) = tm := set_same hv
          rw [hset] at h
          simp only [cond_true] at h
          split at h
          · next hg2 => exact hrun h (hyes true rfl (by rw [← hw]; exact hg2.symm))
          · next hg2 => exact hpass h (hno true rfl (by rw [← hw]; intro e; exact hg2 e.symm))
        | false =>
          have hset : tm.set g.1 (boolV false) = tm := set_same hv
          rw [hset] at h
          simp only [cond_false] at h
          split at h
          · next hg2 => exact hpass h (hno false rfl (by rw [← hw, hg2]; simp))
          · next hg2 => exact hrun h (hyes false rfl (by rw [← hw]; simpa using hg2))
      · cases h

theorem runE_append (N : Nat) (a b : List Evt) (s : FS) : runE N (a ++ b) s = runE N b (runE N a s) := by simp [runE]
theorem runE_one (N : Nat) (e : Evt) (s : FS) : runE N [e] s = app N s e := rfl

/-- A region without a draw. -/
theorem region_seq {ops : Array Oper} {N : Nat} {s0 : FS} {es : List Evt} (hlen : es.length = ops.size) (hdo : ∀ (i : Nat) (o : Oper) (e : Evt), ops[i]? = some o → es[i]? = some e → OpDo E ops o N (runE N (es.take i) s0) e)
    {Q : Exit → Act → World → Prop} {κ : Kap} {R : Nat → Prop} {w : World}
    (hQ : ∀ (κ' : Kap) (R' : Nat → Prop) (a' : Act) (w' : World), Rel E.G κ' R' N (runE N es s0).1 (runE N es s0).2 a' w' → Fr κ R s0.2 w κ' R' (runE N es s0).2 w' → Q .normal a' w') :
    ∀ (k i : Nat), i + k = ops.size → ∀ (κ1 : Kap) (R1 : Nat → Prop) (a1 : Act) (w1 : World), Rel E.G κ1 R1 N (runE N (es.take i) s0).1 (runE N (es.take i) s0).2 a1 w1 → Fr κ R s0.2 w κ1 R1 (runE N (es.take i) s0).2 w1 →
      wpOps E.P ops Q (List.range' i k) a1 w1
  | 0, i, hi, κ1, R1, a1, w1, hrel, hfr => by
    rw [List.take_of_length_le (by omega)] at hrel hfr
    exact hQ κ1 R1 a1 w1 hrel hfr
  | k + 1, i, hi, κ1, R1, a1, w1, hrel, hfr => by
    have hlt : i < ops.size := by omega
    have hlt' : i < es.length := by omega
    have ho : ops[i]? = some ops[i] := Array.getElem?_eq_getElem hlt
    have he : es[i]? = some es[i] := List.getElem?_eq_getElem hlt'
    obtain ⟨hd, hop⟩ := hdo i _ _ ho he
    have hstep : runE N (es.take (i + 1)) s0 = app N (runE N (es.take i) s0) es[i] := by
      rw [List.take_add_one, he]; simp only [Option.toList_some]; rw [runE_append]; rfl
    simp only [List.range'_succ, wpOps, ho]
    have := hop _ _ κ1 R1 a1 w1 (fun _ _ => rfl) (fun _ _ => rfl) hrel (wpOps E.P ops Q (List.range' (i + 1) k)) Q (fun κ2 R2 y w2 h1 h2 => by
      refine region_seq hlen hdo hQ k (i + 1) (by omega) κ2 R2 _ w2 ?_ ?_
      · rw [hstep]; simp only [app, hd]; exact h1
      · rw [hstep]; exact hfr.trans h2)
    by_cases hw : Region.wanted ops[i] (yielded ops a1.tmps) = true
    · rw [if_pos hw] at this ⊢; exact .inl this
    · rw [if_neg hw] at this ⊢; exact this
end
end Go.Ev
