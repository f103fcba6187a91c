/-
  Stores.
  append.
  append where arrays may hold slices of the heap; make, copy, clear, lengths, conversions.
  The other built-in functions, make, conversions; all operations that call nothing.
  make, conversions; all operations that call nothing, in one law.
  What a function hands back.
  What a body leaves, and what a function's call comes to.
  What a call takes over and brings back.
  Every operation, calls too.
-/
import Derived.Test.YtaibdhmiglacdaaGreatDoorEv1

namespace Go.Ev
open Go
variable {G : Nat → Option (List PC)}

section
variable {κ : Kap} {R : Nat → Prop} {h : Nat → Ob} {w : World}

theorem toPs_other {H : List Ob} {slot : Nat} : ∀ (cs : List C) (l : List PC) (wr : List Wr) (rd : List Reg), toPs H cs = some (l, wr, rd) → notIn slot rd = true → ∀ h : Nat → Ob, putsF h wr slot = h slot
  | [], l, wr, rd, ht, _, h => by cases ht; rfl
  | c :: cs, l, wr, rd, ht, hn, h => by
    simp only [toPs, Option.bind_eq_some_iff] at ht
    obtain ⟨x, hx, q, hq, ht⟩ := ht
    cases ht
    simp only [notIn, List.all_append, Bool.and_eq_true] at hn
    have h2 := toPs_other cs q.1 q.2.1 q.2.2 hq hn.2
    have hput : putsF h (x.2.1 ++ q.2.1) = putsF (putsF h x.2.1) q.2.1 := by simp [putsF, List.foldl_append]
    rw [hput, h2]
    unfold toP at hx
    split at hx
    · cases hx; rfl
    · next slot' off len =>
      split at hx
      · next s fz es hob =>
        split at hx
        · cases hx
          have h1 := hn.1
          simp only [List.all_cons, List.all_nil, Bool.and_true, bne_iff_ne, ne_eq] at h1
          simp only [putsF, List.foldl_cons, List.foldl_nil, Wr.putF]
          rw [if_neg (fun e => h1 e.symm)]
        · cases hx
      · cases hx
    · cases hx

/-- A block's cells are written. -/
theorem step_write (hH : HRep G κ R h w) {slot b o : Nat} {ob : Ob} {c c' : Array Value} {t : TypeId} {fr : Nat × Nat} {w' : World} (hw' : w' = { w with heap := w.heap.setIfInBounds b (.cells c' t fr) })
    (hl : (h slot).live = true) (hk : κ slot = some (b, o)) (hb : w.heap[b]? = some (.cells c t fr)) (hsz : c'.size = c.size) (hst : ob.stride = (h slot).stride)
    (hob : ∀ h', Ext κ R h w κ R h' w' → ¬ R b → w'.heap[b]? = some (.cells c' t fr) → ObRep κ R h' w' slot ob) :
    HRep G κ R (putsF h [.obj slot ob]) w' ∧ Fr κ R h w κ R (putsF h [.obj slot ob]) w' := by
  have hlt : b < w.heap.size := (Array.getElem?_eq_some_iff.1 hb).1
  have hblock : w'.heap[b]? = some (.cells c' t fr) := by subst hw'; simp [hlt]
  have he : putsF h [.obj slot ob] = fun s => if s = slot then ob else if (fun _ => false : Nat → Bool) s then .dead else h s := by
    funext s; simp [putsF, Wr.putF]
  have hκ : updN κ slot (some (b, o)) = κ := by funext i; by_cases hi : i = slot <;> simp [updN, hi, hk]
  have hnd : h slot ≠ .dead := by intro e; rw [e] at hl; cases hl
  have := step_put hH slot b o ob (fun _ => false) (w' := w') (by subst hw'; rfl) (by subst hw'; rfl) (by subst hw'; rfl) (by subst hw'; simp) (by subst hw'; simpa using hlt)
    (fun x hx _ => by subst hw'; simp only [Array.getElem?_setIfInBounds]; rw [if_neg (fun e => hx e.symm)])
    (fun c0 t0 fr0 hx => by rw [hb] at hx; cases hx; exact ⟨c', fr, hblock, hsz⟩)
    (.inr ⟨slot, o, hl, hk, .inl rfl⟩) (.inr ⟨hst, hk, hnd⟩) rfl (fun hext hR => by rw [hκ] at hext ⊢; exact hob _ hext hR hblock)
  rw [he]
  rwa [hκ] at this

theorem storeAt_run {P : Program} {t : TypeId} {n : Nat} (hn : szOf P t = some n) {b o : Nat} {c : Array Value} {ty : TypeId} {fr : Nat × Nat} {y : Value} (hb : w.heap[b]? = some (.cells c ty fr)) (ht : thawed c fr)
    (hy : ∀ v ∈ y.cells.toList, v.oneCell' = true) (hs : y.cells.size = n) (hl : o + n ≤ c.size) :
    (Instr.storeAt t (.pointer (some ⟨b, o, none⟩)) y).run P w = .ok () { w with heap := w.heap.setIfInBounds b (.cells (setRange c o y.cells.toList) ty fr) } := by
  simp only [Instr.storeAt, Instr.sureAddr, Sem.run_bind, Sem.run_pure, Result.andThen_ok, storeVar, run_sizeOf' hn]
  rw [if_neg (by simp [hs])]
  have := run_storeCells P y.cells.toList w b o 0 c ty fr hb ht hy (by simp [hs]; omega)
  simpa using this

/-- A box is written. -/
theorem write_box {P : Program} {t : TypeId} {n : Nat} {slot off : Nat} {cs0 xs : List C} {s : Nat} {x y : Value} (hH : HRep G κ R h w) (hn : szOf P t = some n) (hob : h slot = .box s cs0) (hoff : off + n ≤ cs0.length)
    (hc : CRep κ R h w (.bp slot off) x) (hx : CReps κ R h w xs y.cells.toList) (hxl : xs.length = n) :
    ∃ w', (Instr.storeAt t x y).run P w = .ok () w' ∧ HRep G κ R (putsF h [.obj slot (.box s (splice cs0 off xs))]) w' ∧ Fr κ R h w κ R (putsF h [.obj slot (.box s (splice cs0 off xs))]) w' := by
  cases hc with
  | bpDead _ _ _ hd => rw [hob] at hd; cases hd
  | bp _ _ b o s0 hst hk =>
    have hor := hH.obs slot
    rw [hob] at hor
    obtain ⟨b', o', c, ty, fr, h1, h2, h3, h4, h5, h6⟩ := hor
    rw [hk] at h1; cases h1
    have hys : y.cells.size = n := by have := hx.1; rw [hxl] at this; simpa using this.symm
    refine ⟨_, storeAt_run hn h2 h3 hx.ones hys (by omega), ?_⟩
    refine step_write hH rfl (by rw [hob]; rfl) hk h2 (setRange_size _ _ _) (by rw [hob]; rfl) (fun h' he hR hb => ?_)
    refine ⟨b, o, _, ty, fr, hk, hb, ?_, hR, ?_, fun j x hj => ?_⟩
    · intro j hj; exact h3 j (by rwa [setRange_size] at hj)
    · rw [setRange_size, splice_length _ _ _ (by omega)]; exact h5
    · rw [splice_get _ _ _ _ (by omega)] at hj
      rw [setRange_get _ _ _ _ (by simp [hys]; omega)]
      have hyl : y.cells.toList.length = n := by simp [hys]
      split at hj
      · next hin =>
        rw [if_pos (by rw [hyl]; omega)]
        have hlt : j - off < y.cells.toList.length := by omega
        refine ⟨y.cells.toList[j - off], by rw [show o + j - (o + off) = j - off by omega]; exact List.getElem?_eq_getElem hlt, (hx.2 (j - off) x _ hj (List.getElem?_eq_getElem hlt)).ext he⟩
      · next hin =>
        rw [if_neg (by rw [hyl]; omega)]
        obtain ⟨z, hz, hr⟩ := h6 j x hj
        exact ⟨z, hz, hr.ext he⟩

/-- An array's element is written. -/
theorem write_arr {P : Program} {t : TypeId} {n : Nat} {slot i off s : Nat} {es : List (List PC)} {e xs : List PC} {x y : Value} (hH : HRep G κ R h w) (hn : szOf P t = some n) (hob : h slot = .arr s false es) (hi : es[i]? = some e) (hoff : off + n ≤ e.length)
    (hc : CRep κ R h w (.ap slot i off) x) (hx : PReps R w xs y.cells.toList) (hxl : xs.length = n) :
    ∃ w', (Instr.storeAt t x y).run P w = .ok () w' ∧ HRep G κ R (putsF h [.obj slot (.arr s false (es.set i (splice e off xs)))]) w' ∧ Fr κ R h w κ R (putsF h [.obj slot (.arr s false (es.set i (splice e off xs)))]) w' := by
  cases hc with
  | apDead _ _ _ _ hd => rw [hob] at hd; cases hd
  | ap _ _ _ b o s0 hst hk =>
    rw [hob] at hst; simp only [Ob.stride, Option.some.injEq] at hst; subst hst
    have hor := hH.obs slot
    rw [hob] at hor
    rcases hor with ⟨h1, h2⟩ | ⟨b', o', c, ty, fr, h1, h2, h3, h4, h5, h6, h7⟩
    · rw [hk] at h1; cases h1
    · rw [hk] at h1; cases h1
      have hys : y.cells.size = n := by have := hx.1; rw [hxl] at this; simpa using this.symm
      have hyl : y.cells.toList.length = n := by simp [hys]
      have hel : e.length = s := (h7 i e hi).1
      have hilt : i < es.length := (List.getElem?_eq_some_iff.1 hi).1
      have hbound : i * s + s ≤ es.length * s := by
        have := Nat.mul_le_mul_right s (show i + 1 ≤ es.length from hilt)
        rw [Nat.add_mul] at this; omega
      have hones : ∀ v ∈ y.cells.toList, v.oneCell' = true := by
        intro v hv
        obtain ⟨k, hk'⟩ := List.mem_iff_getElem?.1 hv
        have hlt : k < xs.length := by rw [hx.1]; exact (List.getElem?_eq_some_iff.1 hk').1
        exact (hx.2 k _ v (List.getElem?_eq_getElem hlt) hk').oneCell
      refine ⟨_, storeAt_run hn h2 h3 hones hys (by omega), ?_⟩
      refine step_write hH rfl (by rw [hob]; rfl) hk h2 (setRange_size _ _ _) (by rw [hob]; rfl) (fun h' he hR hb => ?_)
      refine .inr ⟨b, o, _, ty, fr, hk, hb, ?_, fun hz => (by cases hz), fun _ => hR, ?_, fun i' e' hi' => ?_⟩
      · intro j hj; exact h3 j (by rwa [setRange_size] at hj)
      · rw [setRange_size, List.length_set]; exact h6
      · rw [List.getElem?_set] at hi'
        by_cases hii : i = i'
        · subst hii
          rw [if_pos rfl, if_pos hilt] at hi'
          cases hi'
          refine ⟨by rw [splice_length _ _ _ (by omega)]; exact hel, fun j x' hj => ?_⟩
          rw [splice_get _ _ _ _ (by omega)] at hj
          rw [setRange_get _ _ _ _ (by rw [hyl]; omega), hyl]
          split at hj
          · next hin =>
            rw [if_pos (by omega)]
            have hlt : j - off < y.cells.toList.length := by omega
            refine ⟨y.cells.toList[j - off], by rw [show o + i * s + j - (o + i * s + off) = j - off by omega]; exact List.getElem?_eq_getElem hlt, (hx.2 (j - off) x' _ hj (List.getElem?_eq_getElem hlt)).ext he.r he.cells⟩
          · next hin =>
            rw [if_neg (by omega)]
            obtain ⟨z, hz, hr⟩ := (h7 i e hi).2 j x' hj
            exact ⟨z, hz, hr.ext he.r he.cells⟩
        · rw [if_neg hii] at hi'
          obtain ⟨q1, q2⟩ := h7 i' e' hi'
          refine ⟨q1, fun j x' hj => ?_⟩
          obtain ⟨z, hz, hr⟩ := q2 j x' hj
          have hjl : j < s := by rw [← q1]; exact (List.getElem?_eq_some_iff.1 hj).1
          refine ⟨z, ?_, hr.ext he.r he.cells⟩
          rw [setRange_get _ _ _ _ (by rw [hyl]; omega), hyl, if_neg]
          · exact hz
          · intro hin
            rcases Nat.lt_or_gt_of_ne hii with hlt | hgt
            · have := Nat.mul_le_mul_right s (show i + 1 ≤ i' from hlt)
              rw [Nat.add_mul] at this; omega
            · have := Nat.mul_le_mul_right s (show i' + 1 ≤ i from hgt)
              rw [Nat.add_mul] at this; omega

end

section ops
variable {ρ : Type} {E : Env} {tm : List AV} {H : List Ob} {nb : Nat} {K : Out → Option ρ} {r : ρ}
variable {dst : Option Tmp} {ty : TypeId} {pos : String} {after : Array Edge} {guard : Option (Nat × Bool)}

theorem sim_store {t : TypeId} {x z : Operand} (h : aop E tm H nb ⟨dst, .store t x z, ty, pos, after, guard⟩ K = some r) : Does E tm H nb ⟨dst, .store t x z, ty, pos, after, guard⟩ K r := by
  simp only [aop, Option.bind_eq_some_iff] at h
  obtain ⟨v, hv, u, hu, y, hy, hK⟩ := h
  have huy : u = .s y := by cases u with | tup l => cases hy | g _ _ _ => cases hy | s x => cases hy; rfl
  subst huy
  split at hK
  · next c =>
    unfold storeAt at hK
    simp only [Option.bind_eq_some_iff] at hK
    obtain ⟨n, hn, hK⟩ := hK
    split at hK
    · next slot off =>
      simp only [Option.bind_eq_some_iff] at hK
      obtain ⟨cs, hcs, hK⟩ := hK
      split at hK
      · next hlen =>
        simp only [Option.bind_eq_some_iff] at hK
        obtain ⟨old, hold, hK⟩ := hK
        refine ⟨_, hK, fun t' h' κ R a w hal hrel => ?_⟩
        have hbox : boxGetF h' slot off n = some old := by
          have := hal.regs (.box slot off n) (by simp)
          simp only [Reg.getF, RegValF.box.injEq] at this
          rw [this, boxGetF_get, hold]
        unfold boxGetF at hbox
        split at hbox
        · next s cs0 hob =>
          split at hbox
          · next hoff =>
            have hrx := operand_rep hrel hv (hal.opnd (by simp [Op.operands]))
            have hry := SRep.cells (operand_rep hrel hu (hal.opnd (by simp [Op.operands]))) hcs
            obtain ⟨w', h1, h2, h3⟩ := write_box (G := E.G) (P := E.P) hrel.heap hn hob hoff hrx hry hlen
            have hput : putsF h' [.box slot off cs] = putsF h' [.obj slot (.box s (splice cs0 off cs))] := by
              funext i; simp [putsF, Wr.putF, hob, hlen, hoff]
            refine ⟨κ, R, undef, w', .inr ⟨?_, rfl⟩, ?_, by rw [hput]; exact h2, by rw [hput]; exact h3⟩
            · simp only [execOp, Sem.run_bind, h1, Result.andThen_ok, Sem.run_pure]
            · exact ⟨[], rfl, rfl, fun i x y h => by simp at h⟩
          · cases hbox
        · cases hbox
      · cases hK
    · next slot i off =>
      simp only [Option.bind_eq_some_iff] at hK
      obtain ⟨cl, hcl, cs, hcs, hK⟩ := hK
      split at hK
      · next hlen =>
        split at hK
        · next s es hob =>
          simp only [Option.bind_eq_some_iff] at hK
          obtain ⟨e, he, hK⟩ := hK
          split at hK
          · next hoff =>
            refine ⟨_, hK, fun t' h' κ R a w hal hrel => ?_⟩
            have hsl : h' slot = .arr s false es := by
              have := hal.regs (.obj slot) (by simp)
              simp only [Reg.getF, RegValF.obj.injEq] at this
              rw [this]; simp [hget, hob]
            have hrx := operand_rep hrel hv (hal.opnd (by simp [Op.operands]))
            have hry := SRep.cells (operand_rep hrel hu (hal.opnd (by simp [Op.operands]))) hcl
            obtain ⟨R1, a1, a2, a3, _⟩ := toPs_step (G := E.G) (κ := κ) cl cs.1 cs.2.1 cs.2.2 _ h' R hcs (toPs_regs cl cs.1 cs.2.1 cs.2.2 hcs (fun q hq => hal.regs q (by simp [hq]))) hrel.heap hry
            have hsl1 : putsF h' cs.2.1 slot = .arr s false es := by rw [toPs_other cl cs.1 cs.2.1 cs.2.2 hcs hoff.2]; exact hsl
            obtain ⟨w', h1, h2, h3⟩ := write_arr (G := E.G) (P := E.P) a1 hn hsl1 he hoff.1 (CRep.ext a2.ext hrx) a3 hlen
            have hput : putsF h' (cs.2.1 ++ [.obj slot (.arr s false (es.set i (splice e off cs.1)))]) = putsF (putsF h' cs.2.1) [.obj slot (.arr s false (es.set i (splice e off cs.1)))] := by simp [putsF, List.foldl_append]
            refine ⟨κ, R1, undef, w', .inr ⟨?_, rfl⟩, ?_, by rw [hput]; exact h2, by rw [hput]; exact a2.trans h3⟩
            · simp only [execOp, Sem.run_bind, h1, Result.andThen_ok, Sem.run_pure]
            · exact ⟨[], rfl, rfl, fun i x y h => by simp at h⟩
          · cases hK
        · cases hK
      · cases hK
    · cases hK
  · cases hK

end ops
end Go.Ev

namespace Go.Ev
open Go
variable {G : Nat → Option (List PC)}

theorem growBy_le (need : Nat) : ∀ (r c : Nat), 256 ≤ c → c ≤ 2 * need → Builtin.growBy need r c ≤ 2 * need
  | 0, c, _, h => h
  | r + 1, c, h1, h2 => by
    unfold Builtin.growBy
    split
    · exact h2
    · exact growBy_le need r _ (by omega) (by omega)

theorem nextcap_le {need cap : Nat} (h : cap < need) : Builtin.nextslicecap need cap ≤ 2 * need := by
  unfold Builtin.nextslicecap
  split
  · omega
  · split
    · omega
    · exact growBy_le need 4 cap (by omega) (by omega)

section
variable {κ : Kap} {R : Nat → Prop} {h : Nat → Ob} {w : World}

theorem flat_inv {α : Type} {s : Nat} (hs : 0 < s) : ∀ {es : List (List α)} {k : Nat} {c : α}, (∀ l ∈ es, l.length = s) → es.flatten[k]? = some c → ∃ e, es[k / s]? = some e ∧ e[k % s]? = some c
  | [], k, c, _, h => by simp at h
  | l :: es, k, c, hl, h => by
    have hll := hl l (by simp)
    rw [List.flatten_cons] at h
    by_cases hk : k < s
    · rw [List.getElem?_append_left (by omega)] at h
      exact ⟨l, by rw [Nat.div_eq_of_lt hk]; rfl, by rw [Nat.mod_eq_of_lt hk]; exact h⟩
    · rw [List.getElem?_append_right (by omega), hll] at h
      obtain ⟨e, h1, h2⟩ := flat_inv hs (fun l' h' => hl l' (by simp [h'])) h
      have e1 : k / s = (k - s) / s + 1 := by
        have := Nat.div_eq_sub_div hs (show s ≤ k by omega)
        exact this
      have e2 : k % s = (k - s) % s := Nat.mod_eq_sub_mod (by omega)
      exact ⟨e, by rw [e1]; exact h1, by rw [e2]; exact h2⟩

theorem flat_len {α : Type} {s : Nat} : ∀ {es : List (List α)}, (∀ l ∈ es, l.length = s) → es.flatten.length = es.length * s
  | [], _ => by simp
  | l :: es, h => by rw [List.flatten_cons, List.length_append, flat_len (fun l' h' => h l' (by simp [h'])), h l (by simp), List.length_cons, Nat.add_mul]; omega

theorem regs_ob {H : List Ob} {h' : Nat → Ob} {slot : Nat} {ob : Ob} (hob : H[slot]? = some ob) (hr : (Reg.obj slot).getF h' = (Reg.obj slot).getF (hget H)) : h' slot = ob := by
  simp only [Reg.getF, RegValF.obj.injEq] at hr
  rw [hr]; simp [hget, hob]

/-- A slice's cells are read, whatever has been drawn. -/
theorem first_slice {P : Program} {A : Option Addr} {len L cap s b o : Nat} {ys : List Value} {w' : World} (hw : w'.heap = w.heap) (hl : ys.length = len * s) (h0 : len * s = 0 ∨ A = some ⟨b, o, none⟩)
    (hA : A = none → len = 0) (hc : ∀ (j : Nat) (y : Value), ys[j]? = some y → w.cell? ⟨b, o + j, none⟩ = some y) : (Builtin.firstCells s len (.slice A L cap)).run P w' = .ok ys.toArray w' := by
  cases A with
  | none =>
    have := hA rfl
    subst this
    have : ys = [] := List.eq_nil_of_length_eq_zero (by simpa using hl)
    subst this
    rfl
  | some a =>
    show (loadCells a (len * s)).run P w' = _
    rcases h0 with h0 | h0
    · rw [h0]
      have : ys = [] := List.eq_nil_of_length_eq_zero (by omega)
      subst this
      rfl
    · cases h0
      rw [← hl]
      exact run_loadCells P w' b o ys (fun j y hj => by rw [cell_of_block (w := w) (w' := w') (by rw [hw])]; exact hc j y hj)

theorem take_cells {w : World} {b o n : Nat} {ys : List Value} (h : ∀ (j : Nat) (y : Value), ys[j]? = some y → w.cell? ⟨b, o + j, none⟩ = some y) : ∀ (j : Nat) (y : Value), (ys.take n)[j]? = some y → w.cell? ⟨b, o + j, none⟩ = some y := by
  intro j y hj
  rw [List.getElem?_take] at hj
  split at hj
  · exact h j y hj
  · cases hj

/-- The elements of a slice. -/
theorem elems_pre {H : List Ob} {h' : Nat → Ob} {s : Nat} {c : C} {es : List (List PC)} {rd : List Reg} {y : Value} (hs : 0 < s) (he : elemsOf H s c = some (es, rd)) (hrd : ∀ q ∈ rd, q.getF h' = q.getF (hget H)) (hH : HRep G κ R h' w)
    (hc : CRep κ R h' w c y) : ∃ A cap, ∃ ys : List Value, y = .slice A es.length cap ∧ es.length ≤ cap ∧ (∀ e ∈ es, e.length = s) ∧ PReps R w es.flatten ys ∧
      ∀ (P : Program) (w' : World) (n : Nat), n ≤ es.length → w'.heap = w.heap → (Builtin.firstCells s n y).run P w' = .ok (ys.take (n * s)).toArray w' := by
  unfold elemsOf at he
  split at he
  · cases he
    cases hc with
    | p _ _ hp =>
      cases hp
      exact ⟨none, 0, [], rfl, Nat.le_refl _, fun e he => by simp at he, ⟨rfl, fun i c y h => by simp at h⟩, fun P w' n hn hw => by rw [List.take_nil]; rfl⟩
  · next s' nn es' =>
    split at he
    · next hss =>
      subst hss; cases he
      cases hc with
      | p _ _ hp =>
        cases hp with
        | sl _ _ _ A len cap f b o h1 h2 h3 h4 h5 h6 h7 =>
          subst h1
          have hall : ∀ e ∈ es, e.length = s := by
            intro e he
            obtain ⟨i, hi⟩ := List.mem_iff_getElem?.1 he
            exact (h6 i e hi).1
          obtain ⟨ys, y1, y2, y3⟩ := choose_vals (Q := PRep R w) es.flatten (fun k => w.cell? ⟨b, o + k, none⟩) (fun k c hk => by
            obtain ⟨e, e1, e2⟩ := flat_inv hs hall hk
            refine ⟨f (k / s) (k % s), ?_, h7 _ e _ c e1 e2⟩
            rw [← (h6 _ e e1).2 (k % s) (Nat.mod_lt _ hs)]
            congr 2
            have := Nat.div_add_mod k s
            rw [Nat.mul_comm] at this; omega)
          refine ⟨A, cap, ys, rfl, h2, hall, ⟨y1.symm, y3⟩, fun P w' n hn hw => ?_⟩
          have hmul : n * s ≤ es.length * s := Nat.mul_le_mul_right _ hn
          have hyl : ys.length = es.length * s := by rw [y1, flat_len hall]
          refine first_slice (b := b) (o := o) (len := n) (s := s) (ys := ys.take (n * s)) hw (by rw [List.length_take, hyl]; omega) ?_ (fun hA => by have := h4 hA; omega) (take_cells y2)
          by_cases hne : es = []
          · subst hne; exact .inl (by simp at hn; simp [hn])
          · exact .inr (h5 hne).1
    · cases he
  · next slot off len =>
    split at he
    · next s' fz es0 hob =>
      split at he
      · next hcond =>
        obtain ⟨hss, hlen⟩ := hcond
        subst hss; cases he
        have hsl := regs_ob hob (hrd (.obj slot) (by simp))
        have hel : ((es0.drop off).take len).length = len := by simp; omega
        cases hc with
        | ownDead _ _ _ _ hd => rw [hsl] at hd; cases hd
        | own _ _ _ cap A s0 g1 g2 g3 g4 =>
          rw [hsl] at g1; simp only [Ob.stride, Option.some.injEq] at g1; subst g1
          have hor := hH.obs slot
          rw [hsl] at hor
          rw [hel]
          rcases hor with ⟨h1, h2⟩ | ⟨b', o', c, t, fr, h1, h2, h3, h4, h5, h6, h7⟩
          · subst h2
            have : len = 0 := by simp at hlen; omega
            subst this
            refine ⟨A, cap, [], rfl, g2, fun e he => by simp at he, ⟨by simp, fun i c y h => by simp at h⟩, fun P w' n hn hw => ?_⟩
            have hn0 : n = 0 := by simpa using hn
            subst hn0
            exact first_slice (w := w) (b := 0) (o := 0) hw (by simp) (.inl (by simp)) (fun _ => rfl) (fun j y h => by simp at h)
          · have hall : ∀ e ∈ (es0.drop off).take len, e.length = s := by
              intro e he
              have := List.mem_of_mem_take he
              have := List.mem_of_mem_drop this
              obtain ⟨i, hi⟩ := List.mem_iff_getElem?.1 this
              exact (h7 i e hi).1
            obtain ⟨ys, y1, y2, y3⟩ := choose_vals (Q := PRep R w) ((es0.drop off).take len).flatten (fun k => w.cell? ⟨b', o' + off * s + k, none⟩) (fun k x hk => by
              obtain ⟨e, e1, e2⟩ := flat_inv hs hall hk
              rw [List.getElem?_take] at e1
              split at e1
              · rw [List.getElem?_drop] at e1
                obtain ⟨y, hy, hr⟩ := (h7 _ e e1).2 _ x e2
                refine ⟨y, ?_, hr⟩
                rw [cell_of_cells h2, ← hy]
                congr 1
                have := Nat.div_add_mod k s
                rw [Nat.mul_comm] at this
                rw [Nat.add_mul]; omega
              · cases e1)
            refine ⟨A, cap, ys, rfl, g2, hall, ⟨y1.symm, y3⟩, fun P w' n hn hw => ?_⟩
            have hyl : ys.length = len * s := by rw [y1, flat_len hall, hel]
            have hmul : n * s ≤ len * s := Nat.mul_le_mul_right _ hn
            refine first_slice (b := b') (o := o' + off * s) (len := n) (s := s) (ys := ys.take (n * s)) hw (by rw [List.length_take, hyl]; omega) ?_ (fun hA => by have := g3 hA; omega) (take_cells y2)
            rcases g4 with g4 | ⟨b, o, k1, k2, k3⟩
            · exact .inl (by have : n = 0 := by omega
                             simp [this])
            · rw [k1] at h1; cases h1; exact .inr k2
      · cases he
    · cases he
  · cases he

theorem elems_rep {H : List Ob} {h' : Nat → Ob} {s : Nat} {c : C} {es : List (List PC)} {rd : List Reg} {y : Value} (hs : 0 < s) (he : elemsOf H s c = some (es, rd)) (hrd : ∀ q ∈ rd, q.getF h' = q.getF (hget H)) (hH : HRep G κ R h' w)
    (hc : CRep κ R h' w c y) : ∃ A cap, ∃ ys : List Value, y = .slice A es.length cap ∧ es.length ≤ cap ∧ (∀ e ∈ es, e.length = s) ∧ PReps R w es.flatten ys ∧
      ∀ (P : Program) (w' : World), w'.heap = w.heap → (Builtin.firstCells s es.length y).run P w' = .ok ys.toArray w' := by
  obtain ⟨A, cap, ys, h1, h2, h3, h4, h5⟩ := elems_pre hs he hrd hH hc
  refine ⟨A, cap, ys, h1, h2, h3, h4, fun P w' hw => ?_⟩
  rw [h5 P w' _ (Nat.le_refl _) hw, List.take_of_length_le (by rw [← h4.1, flat_len h3]; exact Nat.le_refl _)]

/-- What append does: the elements fit, or a new array is made. -/
theorem append_run {P : Program} {ts : Array TypeId} {ty st e : TypeId} {s by_ len cap n : Nat} {A : Option Addr} {x : Value} {z : List Value} {oldys newys : List Value} (hu : P.underlying st = some (.slice e)) (hs : szOf P e = some s) (hby : bytesOfT P e = some by_)
    (hz : zeroCells P e = some z) (ht0 : ts[0]? = some st) (ht1 : ∃ d u, ts[1]? = some u ∧ P.underlying u = some d ∧ (∀ k, d ≠ .int k))
    (hx : (Builtin.lenOf x).run P w = .ok n w) (hb0 : 0 < by_) (hb : (len + n) * by_ ≤ 140737488355328)
    (hold : ∀ w' : World, w'.heap = w.heap → (Builtin.firstCells s len (.slice A len cap)).run P w' = .ok oldys.toArray w') (hnew : ∀ w' : World, w'.heap = w.heap → (Builtin.firstCells s n x).run P w' = .ok newys.toArray w') :
    (len + n ≤ cap ∧ (Builtin.append_ ts ty #[.slice A len cap, x]).run P w = (((match A with | some a => storeCells (a.add (len * s)) newys | none => pure ()) : Sem Unit).run P w).andThen fun _ w' => .ok (.slice A (len + n) cap) w') ∨
    (cap < len + n ∧ ∃ (cap' : Nat) (rest : List Value), len + n ≤ cap' ∧
      (Builtin.append_ ts ty #[.slice A len cap, x]).run P w = .ok (.slice (some ⟨w.heap.size, 0, none⟩) (len + n) cap') (w.drew.alloc (.cells (oldys ++ newys ++ rest).toArray e)) ∧ rest.length = (cap' - (len + n)) * z.length) := by
  obtain ⟨d, u, ht1, hu1, hd⟩ := ht1
  obtain ⟨zv, z1, z2, z3⟩ := run_zero' hz w
  have hby' : ∃ i, P.info? e = some i ∧ i.bytes = by_ := by
    unfold bytesOfT at hby
    simp only [Option.map_eq_some_iff] at hby
    exact hby
  obtain ⟨i, hi, hib⟩ := hby'
  have hti : ∀ w' : World, (typeInfo e).run P w' = .ok i w' := fun w' => by simp [typeInfo, hi]
  have hzero : ∀ w' : World, (zeroValue e).run P w' = .ok zv w' := by
    intro w'
    obtain ⟨v', q1, q2, _⟩ := run_zero' hz w'
    have : v' = zv := by
      have e1 : (zeroValue e).run P w = .ok zv w := z1
      simp only [zeroValue, Sem.run_bind, hti, Result.andThen_ok] at e1 q1
      cases hzz : i.zero with
      | none => rw [hzz] at e1; cases e1
      | some v => rw [hzz] at e1 q1; simp only [Sem.run_pure, Result.ok.injEq] at e1 q1; rw [← e1.1, ← q1.1]
    rw [q1, this]
  have hnotint : (match d with | .int _ => true | _ => false) = false := by
    cases d with
    | int k => exact absurd rfl (hd k)
    | _ => rfl
  have ha0 : (#[Value.slice A len cap, x] : Array Value)[0]? = some (.slice A len cap) := rfl
  have ha1 : (#[Value.slice A len cap, x] : Array Value)[1]? = some x := rfl
  have hneed : len + n ≤ 140737488355328 := Nat.le_trans (Nat.le_mul_of_pos_right _ hb0) hb
  by_cases hfit : len + n ≤ cap
  · refine .inl ⟨hfit, ?_⟩
    unfold Builtin.append_
    rw [ht0, ha0, ha1]
    simp only [Sem.run_bind, run_underlying' hu, Result.andThen_ok, run_sizeOf' hs, ht1, run_underlying' hu1, Sem.run_pure]
    simp only [Bool.false_eq_true, if_false, Sem.run_bind, hx, Result.andThen_ok, if_pos hfit, Bool.not_false, if_true, hnew w rfl]
    cases A with
    | none => simp
    | some a =>
      simp only [Sem.run_bind]
      congr 1
  · refine .inr ⟨by omega, ?_⟩
    have hcap := nextcap_le (need := len + n) (cap := cap) (by omega)
    have hcap2 : ¬ (Builtin.nextslicecap (len + n) cap * i.bytes > 2 ^ 48) := by
      rw [hib]
      have h1 : Builtin.nextslicecap (len + n) cap * by_ ≤ 2 * (len + n) * by_ := Nat.mul_le_mul_right _ hcap
      rw [Nat.mul_assoc] at h1
      omega
    have hmax : ¬ (((len + n : Nat) : Int) > IntKind.i64.max ∧ (False ∨ i.bytes = 0)) := by
      rintro ⟨_, h | h⟩
      · exact h
      · omega
    refine ⟨(len + n) + w.tape w.drawn (.appendCap (len + n) cap e) % (2 ^ 63 - (len + n)), (Builtin.zeroCells zv.cells (w.tape w.drawn (.appendCap (len + n) cap e) % (2 ^ 63 - (len + n)))).toList, by omega, ?_, ?_⟩
    · unfold Builtin.append_
      rw [ht0, ha0, ha1]
      simp only [Sem.run_bind, run_underlying' hu, Result.andThen_ok, run_sizeOf' hs, ht1, run_underlying' hu1, Sem.run_pure]
      simp only [Bool.false_eq_true, if_false, Sem.run_bind, hx, Result.andThen_ok, if_neg hfit, hti, if_neg hmax, if_neg hcap2, run_choose, Question.forced, Question.cut, run_askRoom, hold w.drew rfl, Bool.not_false, if_true, hnew w.drew rfl, World.drew_eq, hzero,
        newRow, run_newObj, Sem.run_pure, Nat.add_sub_cancel_left, World.alloc_eq]
      congr 3
      apply Array.ext'
      simp
    · simp [Builtin.zeroCells, ← z2]

/-- An empty array that lies nowhere. -/
theorem step_none (hH : HRep G κ R h w) {nb : Nat} (hv : h nb = .void) (s : Nat) :
    HRep G (updN κ nb none) R (putsF h [.obj nb (.arr s false [])]) w ∧ Fr κ R h w (updN κ nb none) R (putsF h [.obj nb (.arr s false [])]) w := by
  have he : ∀ i, putsF h [.obj nb (.arr s false [])] i = if i = nb then .arr s false [] else h i := fun i => by simp [putsF, Wr.putF]
  have hext : Ext κ R h w (updN κ nb none) R (putsF h [.obj nb (.arr s false [])]) w := ⟨fun _ hx => hx, fun _ _ => rfl, fun b c t fr hx => ⟨c, fr, hx, rfl⟩, fun i => by
    by_cases hi : i = nb
    · exact .inl (by rw [hi]; exact hv)
    · by_cases hd : h i = .dead
      · exact .inr (.inl (by rw [he, if_neg hi]; exact hd))
      · exact .inr (.inr ⟨by simp [updN, hi], by rw [he, if_neg hi], hd⟩)⟩
  refine ⟨hH.step hext (fun i => i = nb) (fun i hi => ⟨by rw [he, if_neg hi], by simp [updN, hi], fun _ _ _ _ => rfl, fun hl x o hk => (hH.obs i).notR hl hk⟩) (fun i hi => ?_) (fun i j x o o' hi _ _ hk _ => ?_) hH.old, ?_⟩
  · subst hi; rw [he, if_pos rfl]; exact .inl ⟨by simp [updN], rfl⟩
  · subst hi; simp [updN] at hk
  · refine ⟨hext, rfl, rfl, rfl, Nat.le_refl _, fun _ _ _ => rfl, fun i x o hl hk => .inr ?_, fun x hx => .inl hx⟩
    by_cases hi : i = nb
    · subst hi; simp [updN] at hk
    · rw [he, if_neg hi] at hl; simp only [updN, if_neg hi] at hk; exact ⟨i, o, hl, hk⟩

/-- The world behind a draw. -/
theorem step_drew (hH : HRep G κ R h w) : HRep G κ R h w.drew ∧ Fr κ R h w κ R h w.drew := step_same hH rfl rfl rfl rfl

/-- A new array in new memory, behind a draw, its cells those of what was there and of what is laid behind it. -/
theorem own_new {κ' : Kap} {h' : Nat → Ob} {w1 : World} {nb b n cap' s : Nat} {c : Array Value} {t : TypeId} {fr : Nat × Nat} (hst : (h' nb).stride = some s) (hk : κ' nb = some (b, 0)) (hn : n ≤ cap') (hb : w1.heap[b]? = some (.cells c t fr)) (hc : cap' * s ≤ c.size) :
    CRep κ' R h' w1 (.own nb 0 n) (.slice (some ⟨b, 0, none⟩) n cap') :=
  .own nb 0 n cap' _ s hst hn (fun e => by cases e) (.inr ⟨b, 0, hk, by simp, c, t, fr, hb, by simpa using hc⟩)

theorem appendTo_sim {ρ : Type} {E : Env} {H : List Ob} {nb : Nat} {t : TypeId} {x : C} {new : List (List PC)} {rd : List Reg} {K : Out → Option ρ} {r : ρ} (hh : appendTo E H nb t x new rd K = some r) :
    ∃ out, K out = some r ∧ (∀ q ∈ rd, q ∈ out.rd) ∧ nb < out.nb ∧ ∀ (e : TypeId) (s : Nat), elemT E.P t = some e → szOf E.P e = some s → ∀ (h' : Nat → Ob) (κ : Kap) (R : Nat → Prop) (w : World) (y0 yx : Value) (ts : Array TypeId) (ty : TypeId) (newys : List Value), (∀ q ∈ out.rd, q.getF h' = q.getF (hget H)) → h' nb = .void → HRep E.G κ R h' w → CRep κ R h' w x y0 →
      (∀ l ∈ new, l.length = s) → PReps R w new.flatten newys → ts[0]? = some t → (∃ d u, ts[1]? = some u ∧ E.P.underlying u = some d ∧ (∀ k, d ≠ .int k)) → (Builtin.lenOf yx).run E.P w = .ok new.length w →
      (∀ w' : World, w'.heap = w.heap → (Builtin.firstCells s new.length yx).run E.P w' = .ok newys.toArray w') →
      ∃ κ' y1 w1, (Builtin.append_ ts ty #[y0, yx]).run E.P w = .ok y1 w1 ∧ VRep κ' R (putsF h' out.wr) w1 out.v y1 ∧ HRep E.G κ' R (putsF h' out.wr) w1 ∧ Fr κ R h' w κ' R (putsF h' out.wr) w1 := by
  unfold appendTo at hh
  simp only [Option.bind_eq_some_iff] at hh
  obtain ⟨e0, he0, s0, hs0, by_, hby, z, hz, hh⟩ := hh
  have hu : E.P.underlying t = some (.slice e0) := by
    unfold elemT at he0
    split at he0
    · next hu => cases he0; exact hu
    · cases he0
  split at hh
  · next hcond =>
    obtain ⟨hzl, hspos, hbpos⟩ := hcond
    split at hh
    · -- nil
      by_cases hb : new.length * by_ ≤ 140737488355328
      · simp only [hb, decide_true, cond_true] at hh
        refine ⟨_, hh, fun q hq => hq, Nat.lt_succ_self _, fun e s he hs h' κ R w y0 yx ts ty newys hrd hv hH hc hall hnew ht0 ht1 hlen hfirst => ?_⟩
        rw [he0] at he; cases he
        rw [hs0] at hs; cases hs
        have hy0 : y0 = .slice none 0 0 := by cases hc with | p _ _ hp => cases hp; rfl
        subst hy0
        rcases append_run (ty := ty) (oldys := []) (newys := newys) hu hs0 hby hz ht0 ht1 hlen hbpos (len := 0) (cap := 0) (A := none) (by simpa using hb) (fun w' hw => rfl) hfirst with ⟨hfit, hrun⟩ | ⟨hlt, cap', rest, hcap, hrun, hrest⟩
        · have hn : new = [] := List.eq_nil_of_length_eq_zero (by omega)
          subst hn
          obtain ⟨k1, k2⟩ := step_none hH hv s0
          refine ⟨_, _, _, by rw [hrun]; rfl, ?_, k1, k2⟩
          exact .own nb 0 0 0 none s0 (by rw [put_get]; rfl) (Nat.le_refl _) (fun _ => rfl) (.inl rfl)
        · obtain ⟨d1, d2⟩ := step_drew hH
          obtain ⟨κ', k1, k2, k3⟩ := new_arr (G := E.G) (nb := nb) (rest := rest) d1 hv e0 hall (hnew.ext d2.ext.r d2.ext.cells)
          have hblk : (w.drew.alloc (.cells (newys ++ rest).toArray e0)).heap[w.heap.size]? = some (.cells (newys ++ rest).toArray e0 (0, 0)) := by
            show (w.heap.push _)[w.heap.size]? = _; simp
          rw [List.nil_append] at hrun
          refine ⟨κ', _, _, hrun, ?_, k2, d2.trans k3⟩
          rw [Nat.zero_add]
          refine own_new (s := s0) (by rw [put_get]; rfl) k1 (by omega) hblk ?_
          have h1 := hnew.1
          rw [flat_len hall] at h1
          have h2 : cap' * s0 = new.length * s0 + (cap' - (0 + new.length)) * s0 := by rw [← Nat.add_mul]; congr 1; omega
          simp only [List.size_toArray, List.length_append, hrest, hzl]
          omega
      · simp [hb] at hh
    · next slot off len =>
      split at hh
      · next s' es hob =>
        split at hh
        · next hcond2 =>
          obtain ⟨hss, hol⟩ := hcond2
          subst hss
          by_cases hb : (len + new.length) * by_ ≤ 140737488355328
          · simp only [hb, decide_true, cond_true] at hh
            refine ⟨_, hh, fun q hq => by simp [hq], Nat.lt_succ_self _, fun e s he hs h' κ R w y0 yx ts ty newys hrd hv hH hc hall hnew ht0 ht1 hlen hfirst => ?_⟩
            rw [he0] at he; cases he
            rw [hs0] at hs; cases hs
            have hsl := regs_ob hob (hrd (.obj slot) (by simp))
            have hne : slot ≠ nb := by intro e; subst e; rw [hsl] at hv; cases hv
            have helems : elemsOf H s0 (.own slot off len) = some ((es.drop off).take len, [.obj slot]) := by simp [elemsOf, hob, hol]
            obtain ⟨A, cap, oldys, hy0, hlc, holdall, holdreps, holdfirst⟩ := elems_rep hspos helems (fun q hq => hrd q (by simp at hq; simp [hq])) hH hc
            have hel : ((es.drop off).take len).length = len := by simp; omega
            rw [hel] at hy0 hlc holdfirst
            subst hy0
            have hcontent : PReps R w ((es.drop off).take len ++ new).flatten (oldys ++ newys) := by
              rw [List.flatten_append]
              refine ⟨by simp [holdreps.1, hnew.1], fun i c y h1 h2 => ?_⟩
              by_cases hi : i < oldys.length
              · rw [List.getElem?_append_left (by rw [holdreps.1]; exact hi)] at h1
                rw [List.getElem?_append_left hi] at h2
                exact holdreps.2 i c y h1 h2
              · rw [List.getElem?_append_right (by rw [holdreps.1]; omega), holdreps.1] at h1
                rw [List.getElem?_append_right (by omega)] at h2
                exact hnew.2 _ c y h1 h2
            have hallc : ∀ l ∈ (es.drop off).take len ++ new, l.length = s0 := by
              intro l hl
              rw [List.mem_append] at hl
              rcases hl with hl | hl
              · exact holdall l hl
              · exact hall l hl
            rcases append_run (ty := ty) (oldys := oldys) (newys := newys) hu hs0 hby hz ht0 ht1 hlen hbpos hb (fun w' hw => holdfirst E.P w' hw) hfirst with ⟨hfit, hrun⟩ | ⟨hlt, cap', rest, hcap, hrun, hrest⟩
            · have hnl : newys.length = new.length * s0 := by rw [← hnew.1, flat_len hall]
              have hones : ∀ v ∈ newys, v.oneCell' = true := by
                intro v hv'
                obtain ⟨k, hk'⟩ := List.mem_iff_getElem?.1 hv'
                have hlt : k < new.flatten.length := by rw [hnew.1]; exact (List.getElem?_eq_some_iff.1 hk').1
                exact (hnew.2 k _ v (List.getElem?_eq_getElem hlt) hk').oneCell
              cases hc with
              | ownDead _ _ _ _ hd => rw [hsl] at hd; cases hd
              | own _ _ _ _ _ s1 g1 g2 g3 g4 =>
                rw [hsl] at g1; simp only [Ob.stride, Option.some.injEq] at g1; subst g1
                rcases g4 with g4 | ⟨b, o, e1, e2, e3⟩
                · -- no room, and none wanted
                  subst g4
                  have hl0 : len = 0 := by omega
                  have hn0 : new = [] := List.eq_nil_of_length_eq_zero (by omega)
                  subst hl0; subst hn0
                  have hny : newys = [] := List.eq_nil_of_length_eq_zero (by simpa using hnl)
                  subst hny
                  obtain ⟨q1, q2⟩ := step_kill hH slot
                  obtain ⟨k1, k2⟩ := step_none (nb := nb) q1 (by simp [updN, hne.symm, hv]) s0
                  have hput : putsF h' [.obj slot .dead, .obj nb (.arr s0 false ((es.drop off).take 0 ++ []))] = putsF (updN h' slot .dead) [.obj nb (.arr s0 false [])] := by
                    funext i; simp [putsF, Wr.putF, updN]
                  simp only
                  rw [hput]
                  refine ⟨_, .slice A 0 0, w, ?_, ?_, k1, q2.trans k2⟩
                  · rw [hrun]
                    cases A with
                    | none => rfl
                    | some a => rfl
                  · exact .own nb 0 0 0 A s0 (by rw [put_get]; rfl) (Nat.le_refl _) (fun _ => rfl) (.inl rfl)
                · subst e2
                  have hor := hH.obs slot
                  rw [hsl] at hor
                  rcases hor with ⟨h1, h2⟩ | ⟨b', o', c, ty', fr, h1, h2, h3, h4, h5, h6, h7⟩
                  · rw [e1] at h1; cases h1
                  · rw [e1] at h1; cases h1
                    obtain ⟨c0, ty0, fr0, hc0, hroom⟩ := e3
                    rw [h2] at hc0; cases hc0
                    have hroom2 : o + off * s0 + len * s0 + new.length * s0 ≤ c.size := by
                      have : (len + new.length) * s0 ≤ cap * s0 := Nat.mul_le_mul_right _ hfit
                      rw [Nat.add_mul] at this hroom
                      omega
                    have hst := run_storeCells E.P newys w b (o + off * s0 + len * s0) 0 c ty' fr h2 h3 hones (by omega)
                    have hlt : b < w.heap.size := (Array.getElem?_eq_some_iff.1 h2).1
                    have hput : putsF h' [.obj slot .dead, .obj nb (.arr s0 false ((es.drop off).take len ++ new))] = fun i => if i = nb then .arr s0 false ((es.drop off).take len ++ new) else if (i == slot) = true then .dead else h' i := by
                      funext i; simp [putsF, Wr.putF]
                    obtain ⟨w1, hw1⟩ : ∃ w1 : World, w1 = { w with heap := w.heap.setIfInBounds b (.cells (setRange c (o + off * s0 + len * s0 + 0) newys) ty' fr) } := ⟨_, rfl⟩
                    have hblock : w1.heap[b]? = some (.cells (setRange c (o + off * s0 + len * s0 + 0) newys) ty' fr) := by subst hw1; simp [hlt]
                    have hstep := step_put hH nb b (o + off * s0) (.arr s0 false ((es.drop off).take len ++ new)) (fun i => i == slot) (w' := w1) (by subst hw1; rfl) (by subst hw1; rfl) (by subst hw1; rfl) (by subst hw1; simp) (by subst hw1; simpa using hlt)
                      (fun x hx _ => by subst hw1; simp only [Array.getElem?_setIfInBounds]; rw [if_neg (fun e => hx e.symm)])
                      (fun c0 t0 fr0 hx => by rw [h2] at hx; cases hx; exact ⟨_, _, hblock, setRange_size _ _ _⟩)
                      (.inr ⟨slot, o, by rw [hsl]; rfl, e1, .inr (by simp)⟩) (.inl hv) (by simpa using hne.symm)
                      (fun hext hR => by
                        refine .inr ⟨b, o + off * s0, _, ty', fr, by simp [updN], hblock, ?_, fun hz => (by cases hz), fun _ => hR, ?_, fun i l hi => ⟨hallc l (List.mem_of_getElem? hi), fun j x' hj => ?_⟩⟩
                        · intro j hj; exact h3 j (by rwa [setRange_size] at hj)
                        · rw [setRange_size, List.length_append, hel, Nat.add_mul]; omega
                        · rw [setRange_get _ _ _ _ (by omega)]
                          have hjl : j < s0 := by rw [← hallc l (List.mem_of_getElem? hi)]; exact (List.getElem?_eq_some_iff.1 hj).1
                          by_cases hil : i < len
                          · rw [List.getElem?_append_left (by rw [hel]; exact hil), List.getElem?_take, if_pos hil, List.getElem?_drop] at hi
                            obtain ⟨z', hz', hr'⟩ := (h7 _ l hi).2 j x' hj
                            refine ⟨z', ?_, hr'.ext hext.r hext.cells⟩
                            have hb2 : i * s0 + s0 ≤ len * s0 := by
                              have := Nat.mul_le_mul_right s0 (show i + 1 ≤ len from hil)
                              rw [Nat.add_mul] at this; omega
                            rw [if_neg (by omega), ← hz']
                            congr 1
                            rw [Nat.add_mul]; omega
                          · rw [List.getElem?_append_right (by rw [hel]; omega), hel] at hi
                            have hf := flat_get hall hi hj
                            have hb2 : len * s0 + (i - len) * s0 = i * s0 := by rw [← Nat.add_mul]; congr 1; omega
                            have hil2 : i - len < new.length := (List.getElem?_eq_some_iff.1 hi).1
                            have hb3 : (i - len) * s0 + s0 ≤ new.length * s0 := by
                              have := Nat.mul_le_mul_right s0 (show i - len + 1 ≤ new.length from hil2)
                              rw [Nat.add_mul] at this; omega
                            have hlt2 : (i - len) * s0 + j < newys.length := by omega
                            rw [if_pos (by omega)]
                            refine ⟨newys[(i - len) * s0 + j], ?_, (hnew.2 _ x' _ hf (List.getElem?_eq_getElem hlt2)).ext hext.r hext.cells⟩
                            rw [← List.getElem?_eq_getElem hlt2]
                            congr 1; omega)
                    simp only
                    rw [hput]
                    refine ⟨_, .slice (some ⟨b, o + off * s0, none⟩) (len + new.length) cap, w1, ?_, ?_, hstep.1, hstep.2⟩
                    · rw [hrun]
                      simp only [add_none]
                      rw [hst, hw1]
                      rfl
                    · refine .own nb 0 _ cap _ s0 (by simp [Ob.stride]) hfit (fun e => by cases e) (.inr ⟨b, o + off * s0, by simp [updN], by simp, _, _, _, hblock, ?_⟩)
                      rw [setRange_size]
                      rw [Nat.add_mul] at hroom
                      simp only [Nat.zero_add]
                      omega
            · obtain ⟨d1, d2⟩ := step_drew hH
              obtain ⟨q1, q2⟩ := step_kill d1 slot
              obtain ⟨κ', k1, k2, k3⟩ := new_arr (G := E.G) (nb := nb) (rest := rest) q1 (by simp [updN, hne.symm, hv]) e0 hallc (hcontent.ext d2.ext.r d2.ext.cells)
              have hput : putsF h' [.obj slot .dead, .obj nb (.arr s0 false ((es.drop off).take len ++ new))] = putsF (updN h' slot .dead) [.obj nb (.arr s0 false ((es.drop off).take len ++ new))] := by
                funext i; simp [putsF, Wr.putF, updN]
              have hblk : (w.drew.alloc (.cells (oldys ++ newys ++ rest).toArray e0)).heap[w.heap.size]? = some (.cells (oldys ++ newys ++ rest).toArray e0 (0, 0)) := by
                show (w.heap.push _)[w.heap.size]? = _; simp
              simp only
              rw [hput]
              refine ⟨κ', _, _, hrun, ?_, k2, (d2.trans q2).trans k3⟩
              refine own_new (s := s0) (by rw [put_get]; rfl) k1 (by omega) hblk ?_
              have h1 := hcontent.1
              rw [flat_len hallc, List.length_append, List.length_append, hel] at h1
              have h2 : cap' * s0 = (len + new.length) * s0 + (cap' - (len + new.length)) * s0 := by rw [← Nat.add_mul]; congr 1; omega
              simp only [List.size_toArray, List.length_append, hrest, hzl]
              omega
          · simp [hb] at hh
        · cases hh
      · cases hh
    · cases hh
  · cases hh
end
end Go.Ev

namespace Go.Ev
open Go
variable {G : Nat → Option (List PC)}

section
variable {κ : Kap} {R : Nat → Prop} {h : Nat → Ob} {w : World}

/-- The cells of a slice of any kind. -/
theorem cells_rep {H : List Ob} {h' : Nat → Ob} {s n : Nat} {c : C} {cl : List C} {rd : List Reg} {y : Value} (hs : 0 < s) (he : cellsOf H s c = some (n, cl, rd)) (hrd : ∀ q ∈ rd, q.getF h' = q.getF (hget H)) (hH : HRep G κ R h' w)
    (hc : CRep κ R h' w c y) : ∃ A cap, ∃ ys : List Value, y = .slice A n cap ∧ n ≤ cap ∧ CReps κ R h' w cl ys ∧ ys.length = n * s ∧
      ∀ (P : Program) (w' : World), w'.heap = w.heap → (Builtin.firstCells s n y).run P w' = .ok ys.toArray w' := by
  unfold cellsOf at he
  split at he
  · cases he
    obtain ⟨A, cap, ys, h1, h2, h3, h4, h5⟩ := elems_rep hs (c := .p (.v (.slice none 0 0))) (es := []) (rd := []) rfl hrd hH hc
    exact ⟨A, cap, ys, h1, h2, ⟨h4.1, fun i c y h => by simp at h⟩, by rw [← h4.1]; simp, h5⟩
  · next s' nn es =>
    split at he
    · next hss =>
      subst hss; cases he
      obtain ⟨A, cap, ys, h1, h2, h3, h4, h5⟩ := elems_rep hs (c := .p (.sl s nn es)) (es := es) (rd := []) (by simp [elemsOf]) hrd hH hc
      exact ⟨A, cap, ys, h1, h2, creps_map.2 h4, by rw [← h4.1, flat_len h3], h5⟩
    · cases he
  · next slot off len =>
    split at he
    · next s' fz es hob =>
      split at he
      · next hcond =>
        cases he
        have hel : ((es.drop off).take n).length = n := by simp; omega
        obtain ⟨A, cap, ys, h1, h2, h3, h4, h5⟩ := elems_rep hs (c := .own slot off n) (es := (es.drop off).take n) (rd := [.obj slot]) (by simp [elemsOf, hob, hcond.1, hcond.2]) hrd hH hc
        rw [hel] at h1 h2 h5
        exact ⟨A, cap, ys, h1, h2, creps_map.2 h4, by rw [← h4.1, flat_len h3, hel], h5⟩
      · cases he
    · next s' cs hob =>
      split at he
      · next hcond =>
        obtain ⟨hss, hlen⟩ := hcond
        subst hss; cases he
        have hsl := regs_ob hob (hrd (.obj slot) (by simp))
        cases hc with
        | ownDead _ _ _ _ hd => rw [hsl] at hd; cases hd
        | own _ _ _ cap A s0 g1 g2 g3 g4 =>
          rw [hsl] at g1; simp only [Ob.stride, Option.some.injEq] at g1; subst g1
          have hor := hH.obs slot
          rw [hsl] at hor
          obtain ⟨b', o', c, t, fr, h1, h2, h3, h4, h5, h6⟩ := hor
          rw [Nat.add_mul] at hlen
          obtain ⟨ys, y1, y2, y3⟩ := choose_vals (Q := CRep κ R h' w) ((cs.drop (off * s)).take (n * s)) (fun k => w.cell? ⟨b', o' + off * s + k, none⟩) (fun k x hk => by
            rw [List.getElem?_take] at hk
            split at hk
            · rw [List.getElem?_drop] at hk
              obtain ⟨y, hy, hr⟩ := h6 _ x hk
              refine ⟨y, ?_, hr⟩
              rw [cell_of_cells h2, ← hy]
              congr 1; omega
            · cases hk)
          have hyl : ys.length = n * s := by rw [y1]; simp; omega
          refine ⟨A, cap, ys, rfl, g2, ⟨y1.symm, y3⟩, hyl, fun P w' hw => ?_⟩
          refine first_slice (b := b') (o := o' + off * s) hw hyl ?_ (fun hA => by have := g3 hA; omega) y2
          rcases g4 with g4 | ⟨b, o, k1, k2, k3⟩
          · exact .inl (by have : n = 0 := by omega
                           simp [this])
          · rw [k1] at h1; cases h1; exact .inr k2
      · cases he
    · cases he
  · cases he

theorem obrep_box' {κ' : Kap} {h' : Nat → Ob} {w' : World} {s nb b : Nat} {cs : List C} {ys rest : List Value} {t : TypeId} (hr : CReps κ R h w cs ys) (he : Ext κ R h w κ' R h' w') (hk : κ' nb = some (b, 0)) (hR : ¬ R b)
    (hb : w'.heap[b]? = some (.cells (ys ++ rest).toArray t (0, 0))) : ObRep κ' R h' w' nb (.box s cs) := by
  refine ⟨b, 0, (ys ++ rest).toArray, t, (0, 0), hk, hb, thawed_zero _, hR, by have := hr.1; simp; omega, fun j x hx => ?_⟩
  have hlt : j < ys.length := by rw [← hr.1]; exact (List.getElem?_eq_some_iff.1 hx).1
  refine ⟨ys[j], ?_, (hr.2 j x _ hx (List.getElem?_eq_getElem hlt)).ext he⟩
  rw [Nat.zero_add]
  simp [List.getElem?_append_left hlt, hlt]

theorem new_box' {h' : Nat → Ob} {nb : Nat} (hH : HRep G κ R h' w) (hv : h' nb = .void) (s : Nat) {cs : List C} {ys rest : List Value} (t : TypeId) (hr : CReps κ R h' w cs ys) :
    ∃ κ', κ' nb = some (w.heap.size, 0) ∧ HRep G κ' R (putsF h' [.obj nb (.box s cs)]) (w.alloc (.cells (ys ++ rest).toArray t)) ∧ Fr κ R h' w κ' R (putsF h' [.obj nb (.box s cs)]) (w.alloc (.cells (ys ++ rest).toArray t)) := by
  refine ⟨_, ?_, step_new hH hv (.box s cs) (ys ++ rest).toArray t rfl fun κ2 h2 he hk hR hb => obrep_box' hr he hk hR hb⟩
  simp [updN]

theorem CReps.append {a b : List C} {x y : List Value} (h1 : CReps κ R h w a x) (h2 : CReps κ R h w b y) : CReps κ R h w (a ++ b) (x ++ y) := by
  refine ⟨by simp [h1.1, h2.1], fun i c z hc hz => ?_⟩
  by_cases hi : i < x.length
  · rw [List.getElem?_append_left (by rw [h1.1]; exact hi)] at hc
    rw [List.getElem?_append_left hi] at hz
    exact h1.2 i c z hc hz
  · rw [List.getElem?_append_right (by rw [h1.1]; omega), h1.1] at hc
    rw [List.getElem?_append_right (by omega)] at hz
    exact h2.2 _ c z hc hz

/-- An object goes; in its place a new one, over a part of its block that has been written behind. -/
theorem step_onto {κ : Kap} {h' : Nat → Ob} (hH : HRep G κ R h' w) {slot nb b o o2 : Nat} {ob : Ob} {c c' : Array Value} {t : TypeId} {fr : Nat × Nat} {w1 : World} (hw1 : w1 = { w with heap := w.heap.setIfInBounds b (.cells c' t fr) })
    (hl : (h' slot).live = true) (hk : κ slot = some (b, o)) (hb : w.heap[b]? = some (.cells c t fr)) (hsz : c'.size = c.size) (hv : h' nb = .void)
    (hob : ∀ κ2 h2, Ext κ R h' w κ2 R h2 w1 → κ2 nb = some (b, o2) → ¬ R b → w1.heap[b]? = some (.cells c' t fr) → ObRep κ2 R h2 w1 nb ob) :
    HRep G (updN κ nb (some (b, o2))) R (putsF h' [.obj slot .dead, .obj nb ob]) w1 ∧ Fr κ R h' w (updN κ nb (some (b, o2))) R (putsF h' [.obj slot .dead, .obj nb ob]) w1 := by
  have hne : slot ≠ nb := by intro e; subst e; rw [hv] at hl; cases hl
  have hlt : b < w.heap.size := (Array.getElem?_eq_some_iff.1 hb).1
  have hblock : w1.heap[b]? = some (.cells c' t fr) := by subst hw1; simp [hlt]
  have hput : putsF h' [.obj slot .dead, .obj nb ob] = fun i => if i = nb then ob else if (i == slot) = true then .dead else h' i := by
    funext i; simp [putsF, Wr.putF]
  rw [hput]
  exact step_put hH nb b o2 ob (fun i => i == slot) (w' := w1) (by subst hw1; rfl) (by subst hw1; rfl) (by subst hw1; rfl) (by subst hw1; simp) (by subst hw1; simpa using hlt)
    (fun x hx _ => by subst hw1; simp only [Array.getElem?_setIfInBounds]; rw [if_neg (fun e => hx e.symm)])
    (fun c0 t0 fr0 hx => by rw [hb] at hx; cases hx; exact ⟨_, _, hblock, hsz⟩)
    (.inr ⟨slot, o, hl, hk, .inr (by simp)⟩) (.inl hv) (by simpa using hne.symm)
    (fun hext hR => hob _ _ hext (by simp [updN]) hR hblock)

theorem appendBox_sim {ρ : Type} {E : Env} {H : List Ob} {nb : Nat} {t : TypeId} {x y : C} {K : Out → Option ρ} {r : ρ} (hh : appendBox E H nb t x y K = some r) :
    ∃ out, K out = some r ∧ nb < out.nb ∧ ∀ (h' : Nat → Ob) (κ : Kap) (R : Nat → Prop) (w : World) (y0 yx : Value) (ts : Array TypeId) (ty : TypeId), (∀ q ∈ out.rd, q.getF h' = q.getF (hget H)) → h' nb = .void → HRep E.G κ R h' w → CRep κ R h' w x y0 → CRep κ R h' w y yx →
      ts[0]? = some t → (∃ d u, ts[1]? = some u ∧ E.P.underlying u = some d ∧ (∀ k, d ≠ .int k)) →
      ∃ κ' y1 w1, (Builtin.append_ ts ty #[y0, yx]).run E.P w = .ok y1 w1 ∧ VRep κ' R (putsF h' out.wr) w1 out.v y1 ∧ HRep E.G κ' R (putsF h' out.wr) w1 ∧ Fr κ R h' w κ' R (putsF h' out.wr) w1 := by
  unfold appendBox at hh
  simp only [Option.bind_eq_some_iff] at hh
  obtain ⟨e0, he0, s0, hs0, by_, hby, z, hz, hh⟩ := hh
  have hu : E.P.underlying t = some (.slice e0) := by
    unfold elemT at he0
    split at he0
    · next hu => cases he0; exact hu
    · cases he0
  split at hh
  · next hcond =>
    obtain ⟨hzl, hspos, hbpos⟩ := hcond
    simp only [Option.bind_eq_some_iff] at hh
    obtain ⟨⟨n, cl, rd⟩, hcl, hh⟩ := hh
    simp only at hh
    split at hh
    · -- nil
      by_cases hb : n * by_ ≤ 140737488355328 ∧ 0 < n
      · simp only [hb.1, hb.2, decide_true, Bool.and_true, cond_true] at hh
        obtain ⟨hb, hn0⟩ := hb
        refine ⟨_, hh, Nat.lt_succ_self _, fun h' κ R w y0 yx ts ty hrd hv hH hc hcy ht0 ht1 => ?_⟩
        have hy0 : y0 = .slice none 0 0 := by cases hc with | p _ _ hp => cases hp; rfl
        subst hy0
        obtain ⟨A2, cap2, newys, hyx, hncap, hnew, hnl, hfirst⟩ := cells_rep hspos hcl (fun q hq => hrd q hq) hH hcy
        subst hyx
        rcases append_run (ty := ty) (oldys := []) (newys := newys) (x := .slice A2 n cap2) (n := n) (w := w) hu hs0 hby hz ht0 ht1 rfl hbpos (len := 0) (cap := 0) (A := none) (by simpa using hb) (fun w' hw => rfl) (fun w' hw => hfirst E.P w' hw) with ⟨hfit, hrun⟩ | ⟨hlt, cap', rest, hcap, hrun, hrest⟩
        · omega
        · obtain ⟨d1, d2⟩ := step_drew hH
          obtain ⟨κ', k1, k2, k3⟩ := new_box' (G := E.G) (nb := nb) (rest := rest) d1 hv s0 e0 (hnew.ext d2.ext)
          have hblk : (w.drew.alloc (.cells (newys ++ rest).toArray e0)).heap[w.heap.size]? = some (.cells (newys ++ rest).toArray e0 (0, 0)) := by
            show (w.heap.push _)[w.heap.size]? = _; simp
          rw [List.nil_append] at hrun
          refine ⟨κ', _, _, hrun, ?_, k2, d2.trans k3⟩
          rw [Nat.zero_add]
          refine own_new (s := s0) (by rw [put_get]; rfl) k1 (by omega) hblk ?_
          have h2 : cap' * s0 = n * s0 + (cap' - (0 + n)) * s0 := by rw [← Nat.add_mul]; congr 1; omega
          simp only [List.size_toArray, List.length_append, hrest, hzl]
          omega
      · exfalso
        have : (decide (n * by_ ≤ 140737488355328) && decide (0 < n)) = false := by simp; omega
        rw [this] at hh; cases hh
    · next slot off len =>
      split at hh
      · next s' cs hob =>
        split at hh
        · next hcond2 =>
          obtain ⟨hss, hol⟩ := hcond2
          subst hss
          by_cases hb : (len + n) * by_ ≤ 140737488355328
          · simp only [hb, decide_true, cond_true] at hh
            refine ⟨_, hh, Nat.lt_succ_self _, fun h' κ R w y0 yx ts ty hrd hv hH hc hcy ht0 ht1 => ?_⟩
            have hsl := regs_ob hob (hrd (.obj slot) (by simp))
            have hne : slot ≠ nb := by intro e; subst e; rw [hsl] at hv; cases hv
            obtain ⟨A2, cap2, newys, hyx, hncap, hnew, hnl, hfirst⟩ := cells_rep hspos hcl (fun q hq => hrd q (by simp [hq])) hH hcy
            subst hyx
            have hcells : cellsOf H s0 (.own slot off len) = some (len, (cs.drop (off * s0)).take (len * s0), [.obj slot]) := by simp [cellsOf, hob, hol]
            obtain ⟨A, cap, oldys, hy0, hlc, holdreps, hol2, holdfirst⟩ := cells_rep hspos hcells (fun q hq => hrd q (by simp at hq; simp [hq])) hH hc
            subst hy0
            have hcontent := holdreps.append hnew
            rcases append_run (ty := ty) (oldys := oldys) (newys := newys) (x := .slice A2 n cap2) (n := n) (w := w) hu hs0 hby hz ht0 ht1 rfl hbpos hb (fun w' hw => holdfirst E.P w' hw) (fun w' hw => hfirst E.P w' hw) with ⟨hfit, hrun⟩ | ⟨hlt, cap', rest, hcap, hrun, hrest⟩
            · have hones := hnew.ones
              cases hc with
              | ownDead _ _ _ _ hd => rw [hsl] at hd; cases hd
              | own _ _ _ _ _ s1 g1 g2 g3 g4 =>
                rw [hsl] at g1; simp only [Ob.stride, Option.some.injEq] at g1; subst g1
                have hor := hH.obs slot
                rw [hsl] at hor
                obtain ⟨b', o', c, ty', fr, h1, h2, h3, h4, h5, h6⟩ := hor
                rw [Nat.add_mul] at hol
                rcases g4 with g4 | ⟨b, o, e1, e2, e3⟩
                · subst g4
                  have hl0 : len = 0 := by omega
                  have hn0 : n = 0 := by omega
                  subst hl0; subst hn0
                  have hny : newys = [] := List.eq_nil_of_length_eq_zero (by simpa using hnl)
                  subst hny
                  have hcl0 : cl = [] := List.eq_nil_of_length_eq_zero (by rw [hnew.1]; rfl)
                  subst hcl0
                  have hlt : b' < w.heap.size := (Array.getElem?_eq_some_iff.1 h2).1
                  obtain ⟨w1, hw1⟩ : ∃ w1 : World, w1 = { w with heap := w.heap.setIfInBounds b' (.cells c ty' fr) } := ⟨_, rfl⟩
                  have hw1' : w1 = w := by
                    rw [hw1]
                    have : w.heap.setIfInBounds b' (.cells c ty' fr) = w.heap := by
                      apply Array.ext_getElem?
                      intro j
                      rw [Array.getElem?_setIfInBounds]
                      split
                      · next e => subst e; first | exact h2.symm | (rw [if_pos hlt]; exact h2.symm)
                      · rfl
                    rw [this]
                  obtain ⟨q1, q2⟩ := step_onto (G := E.G) hH (nb := nb) (o2 := o') (ob := .box s0 ((cs.drop (off * s0)).take (0 * s0) ++ [])) hw1 (by rw [hsl]; rfl) h1 h2 rfl hv (fun κ2 h2' he hk hR hbl => ⟨b', o', c, ty', fr, hk, hbl, h3, hR, by simp; omega, fun j x hx => by simp at hx⟩)
                  rw [hw1'] at q1 q2
                  refine ⟨_, .slice A 0 0, w, ?_, ?_, q1, q2⟩
                  · rw [hrun]
                    cases A <;> rfl
                  · refine .own nb 0 0 0 A s0 ?_ (Nat.le_refl _) (fun _ => rfl) (.inl rfl)
                    simp [putsF, Wr.putF, Ob.stride]
                · rw [e1] at h1; cases h1
                  subst e2
                  obtain ⟨c0, ty0, fr0, hc0, hroom⟩ := e3
                  rw [h2] at hc0; cases hc0
                  have hroom2 : o' + off * s0 + len * s0 + n * s0 ≤ c.size := by
                    have : (len + n) * s0 ≤ cap * s0 := Nat.mul_le_mul_right _ hfit
                    rw [Nat.add_mul] at this hroom
                    omega
                  have hst := run_storeCells E.P newys w b' (o' + off * s0 + len * s0) 0 c ty' fr h2 h3 hones (by omega)
                  have hlt : b' < w.heap.size := (Array.getElem?_eq_some_iff.1 h2).1
                  obtain ⟨w1, hw1⟩ : ∃ w1 : World, w1 = { w with heap := w.heap.setIfInBounds b' (.cells (setRange c (o' + off * s0 + len * s0 + 0) newys) ty' fr) } := ⟨_, rfl⟩
                  have hblock : w1.heap[b']? = some (.cells (setRange c (o' + off * s0 + len * s0 + 0) newys) ty' fr) := by subst hw1; simp [hlt]
                  have hll : ((cs.drop (off * s0)).take (len * s0)).length = len * s0 := by simp; omega
                  obtain ⟨q1, q2⟩ := step_onto (G := E.G) hH (nb := nb) (o2 := o' + off * s0) (ob := .box s0 ((cs.drop (off * s0)).take (len * s0) ++ cl)) hw1 (by rw [hsl]; rfl) e1 h2 (setRange_size _ _ _) hv (fun κ2 h2' he hk hR hbl => by
                    refine ⟨b', o' + off * s0, _, ty', fr, hk, hbl, ?_, hR, ?_, fun j x hx => ?_⟩
                    · intro j hj; exact h3 j (by rwa [setRange_size] at hj)
                    · rw [setRange_size, List.length_append, hll, hnew.1, hnl]; omega
                    · rw [setRange_get _ _ _ _ (by omega)]
                      by_cases hj : j < len * s0
                      · rw [List.getElem?_append_left (by rw [hll]; exact hj), List.getElem?_take, if_pos hj, List.getElem?_drop] at hx
                        obtain ⟨z', hz', hr'⟩ := h6 _ x hx
                        refine ⟨z', ?_, hr'.ext he⟩
                        rw [if_neg (by omega), ← hz']
                        congr 1; omega
                      · rw [List.getElem?_append_right (by rw [hll]; omega), hll] at hx
                        have hlt2 : j - len * s0 < newys.length := by rw [← hnew.1]; exact (List.getElem?_eq_some_iff.1 hx).1
                        rw [if_pos (by omega)]
                        refine ⟨newys[j - len * s0], ?_, (hnew.2 _ x _ hx (List.getElem?_eq_getElem hlt2)).ext he⟩
                        rw [← List.getElem?_eq_getElem hlt2]
                        congr 1; omega)
                  refine ⟨_, .slice (some ⟨b', o' + off * s0, none⟩) (len + n) cap, w1, ?_, ?_, q1, q2⟩
                  · rw [hrun]
                    simp only [add_none]
                    rw [hst, hw1]
                    rfl
                  · refine .own nb 0 _ cap _ s0 (by simp [putsF, Wr.putF, Ob.stride]) hfit (fun e => by cases e) (.inr ⟨b', o' + off * s0, by simp [updN], by simp, _, _, _, hblock, ?_⟩)
                    rw [setRange_size]
                    rw [Nat.add_mul] at hroom
                    simp only [Nat.zero_add]
                    omega
            · obtain ⟨d1, d2⟩ := step_drew hH
              obtain ⟨q1, q2⟩ := step_kill d1 slot
              obtain ⟨κ', k1, k2, k3⟩ := new_box' (G := E.G) (nb := nb) (rest := rest) q1 (by simp [updN, hne.symm, hv]) s0 e0 ((hcontent.ext d2.ext).ext q2.ext)
              have hput : putsF h' [.obj slot .dead, .obj nb (.box s0 ((cs.drop (off * s0)).take (len * s0) ++ cl))] = putsF (updN h' slot .dead) [.obj nb (.box s0 ((cs.drop (off * s0)).take (len * s0) ++ cl))] := by
                funext i; simp [putsF, Wr.putF, updN]
              have hblk : (w.drew.alloc (.cells (oldys ++ newys ++ rest).toArray e0)).heap[w.heap.size]? = some (.cells (oldys ++ newys ++ rest).toArray e0 (0, 0)) := by
                show (w.heap.push _)[w.heap.size]? = _; simp
              simp only
              rw [hput]
              refine ⟨κ', _, _, hrun, ?_, k2, (d2.trans q2).trans k3⟩
              refine own_new (s := s0) (by rw [put_get]; rfl) k1 (by omega) hblk ?_
              have h2 : cap' * s0 = (len + n) * s0 + (cap' - (len + n)) * s0 := by rw [← Nat.add_mul]; congr 1; omega
              rw [Nat.add_mul] at h2
              simp only [List.size_toArray, List.length_append, hrest, hzl]
              omega
          · simp [hb] at hh
        · cases hh
      · cases hh
    · cases hh
  · cases hh
end
end Go.Ev

namespace Go.Ev
open Go
variable {G : Nat → Option (List PC)}

section
variable {κ : Kap} {R : Nat → Prop} {h : Nat → Ob} {w : World}

theorem lenOf_rep {H : List Ob} {h' : Nat → Ob} {c : C} {n : Nat} {rd : List Reg} {y : Value} (hl : lenOf H c = some (n, rd)) (hrd : ∀ q ∈ rd, q.getF h' = q.getF (hget H)) (hc : CRep κ R h' w c y) : ∃ A cap, y = .slice A n cap := by
  unfold lenOf at hl
  split at hl
  · cases hl; cases hc with | p _ _ hp => cases hp; exact ⟨_, _, rfl⟩
  · cases hl
    cases hc with
    | p _ _ hp => cases hp with | sl _ _ _ A len cap f b o h1 => subst h1; exact ⟨_, _, rfl⟩
  · split at hl
    · next hob =>
      cases hl
      have := regs_ob hob (hrd _ (by simp))
      cases hc with
      | ownDead _ _ _ _ hd => rw [this] at hd; cases hd
      | own => exact ⟨_, _, rfl⟩
    · next hob =>
      cases hl
      have := regs_ob hob (hrd _ (by simp))
      cases hc with
      | ownDead _ _ _ _ hd => rw [this] at hd; cases hd
      | own => exact ⟨_, _, rfl⟩
    · cases hl
  · cases hl

theorem run_len_slice {P : Program} {ts : Array TypeId} {ty t e : TypeId} (ht : ts[0]? = some t) (hu : P.underlying t = some (.slice e)) (A : Option Addr) (n cap : Nat) : (Builtin.len_ ts ty #[.slice A n cap]).run P w = .ok (.int .i64 n) w := by
  unfold Builtin.len_
  have h0 : (#[Value.slice A n cap] : Array Value)[0]? = some (.slice A n cap) := rfl
  rw [ht, h0]
  simp only [Sem.run_bind, run_underlying' hu, Result.andThen_ok, Sem.run_pure]
  rfl
theorem run_len_string {P : Program} {ts : Array TypeId} {ty t : TypeId} (ht : ts[0]? = some t) (hu : P.underlying t = some .string) (s : ByteArray) : (Builtin.len_ ts ty #[.string s]).run P w = .ok (.int .i64 s.size) w := by
  unfold Builtin.len_
  have h0 : (#[Value.string s] : Array Value)[0]? = some (.string s) := rfl
  rw [ht, h0]
  simp only [Sem.run_bind, run_underlying' hu, Result.andThen_ok, Sem.run_pure]
  rfl
theorem run_len_array {P : Program} {ts : Array TypeId} {ty t e : TypeId} {n : Nat} (ht : ts[0]? = some t) (hu : P.underlying t = some (.array n e)) (v : Value) : (Builtin.len_ ts ty #[v]).run P w = .ok (.int .i64 n) w := by
  unfold Builtin.len_
  have h0 : (#[v] : Array Value)[0]? = some v := rfl
  rw [ht, h0]
  simp only [Sem.run_bind, run_underlying' hu, Result.andThen_ok]
  cases v <;> rfl

theorem run_max2 (P : Program) (k : IntKind) (a b : Int) : (Builtin.max2 (.int k a) (.int k b)).run P w = .ok (.int k (if b > a then b else a)) w := rfl
theorem run_min2 (P : Program) (k : IntKind) (a b : Int) : (Builtin.min2 (.int k a) (.int k b)).run P w = .ok (.int k (if b < a then b else a)) w := rfl

theorem run_maxs (P : Program) (k : IntKind) : ∀ (l : List Int) (a : Int), ((l.map fun n => Value.int k n).foldlM Builtin.max2 (.int k a)).run P w = .ok (.int k (l.foldl (fun x y => if y > x then y else x) a)) w
  | [], a => rfl
  | b :: l, a => by
    rw [List.map_cons, List.foldlM_cons, Sem.run_bind, run_max2, Result.andThen_ok, run_maxs P k l, List.foldl_cons]
theorem run_mins (P : Program) (k : IntKind) : ∀ (l : List Int) (a : Int), ((l.map fun n => Value.int k n).foldlM Builtin.min2 (.int k a)).run P w = .ok (.int k (l.foldl (fun x y => if y < x then y else x) a)) w
  | [], a => rfl
  | b :: l, a => by
    rw [List.map_cons, List.foldlM_cons, Sem.run_bind, run_min2, Result.andThen_ok, run_mins P k l, List.foldl_cons]

/-- The values of operands. -/
theorem opnds_rep {E : Env} {tm : List AV} {t' : Nat → AV} {h' : Nat → Ob} {a : Act} (hrel : Rel E.G κ R tm.length t' h' a w) : ∀ (xs : List Operand) (vs : List AV), xs.mapM (operand tm) = some vs → (∀ x ∈ xs, ∀ t, x = .tmp t → t' t = tget tm t) →
    vs.length = xs.length ∧ ∀ (i : Nat) (v : AV) (y : Value), vs[i]? = some v → (xs.map a.eval)[i]? = some y → VRep κ R h' w v y
  | [], vs, hm, _ => by simp at hm; subst hm; exact ⟨rfl, fun i v y h1 => by simp at h1⟩
  | x :: xs, vs, hm, hal => by
    simp only [List.mapM_cons, bind, Option.bind_eq_some_iff, pure, Option.some.injEq] at hm
    obtain ⟨v, hv, vs', hvs', rfl⟩ := hm
    obtain ⟨h1, h2⟩ := opnds_rep hrel xs vs' hvs' (fun y hy => hal y (by simp [hy]))
    refine ⟨by simp [h1], fun i v' y hi hy => ?_⟩
    cases i with
    | zero => simp only [List.map_cons, List.getElem?_cons_zero, Option.some.injEq] at hi hy; subst hi; subst hy; exact operand_rep hrel hv (hal x (by simp))
    | succ i => exact h2 i v' y (by simpa using hi) (by simpa using hy)

theorem intsOf_vals {k : IntKind} {h' : Nat → Ob} : ∀ (vs : List AV) (l : List Int) (ys : List Value), intsOf k vs = some l → vs.length = ys.length → (∀ (i : Nat) (v : AV) (y : Value), vs[i]? = some v → ys[i]? = some y → VRep κ R h' w v y) → ys = l.map fun n => .int k n
  | [], l, ys, hi, hl, _ => by cases hi; exact List.eq_nil_of_length_eq_zero (by simpa using hl.symm)
  | v :: vs, l, ys, hi, hl, hr => by
    unfold intsOf at hi
    split at hi
    · next heq => cases heq
    · next k' n r heq =>
      cases heq
      split at hi
      · next hk =>
        subst hk
        simp only [Option.map_eq_some_iff] at hi
        obtain ⟨l', hl', rfl⟩ := hi
        match ys, hl with
        | y :: ys, hl =>
          have h0 := val_rep (x := .int k n) rfl (hr 0 _ y rfl rfl)
          subst h0
          rw [List.map_cons, intsOf_vals vs l' ys hl' (by simpa using hl) (fun i v y h1 h2 => hr (i + 1) v y (by simpa using h1) (by simpa using h2))]
      · cases hi
    · cases hi
end

section ops
variable {ρ : Type} {E : Env} {tm : List AV} {H : List Ob} {nb : Nat} {K : Out → Option ρ} {r : ρ}
variable {dst : Option Tmp} {ty : TypeId} {pos : String} {after : Array Edge} {guard : Option (Nat × Bool)}

theorem run_builtin {P : Program} {w : World} {a : Act} {b : Builtin} {args : Array Operand} {ts : Array TypeId} :
    (execOp a.eval ⟨dst, .call { callee := .builtin b, args, argTypes := ts }, ty, pos, after, guard⟩).run P w = (builtin b ts ty (args.map fun | .const _ => true | _ => false) (args.map a.eval)).run P w := rfl

theorem splice_all {l x : List (List PC)} {off s : Nat} (hl : ∀ e ∈ l, e.length = s) (hx : ∀ e ∈ x, e.length = s) : ∀ e ∈ splice l off x, e.length = s := by
  intro e he
  simp only [splice, List.mem_append] at he
  rcases he with he | he | he
  · exact hl e (List.mem_of_mem_take he)
  · exact hx e he
  · exact hl e (List.mem_of_mem_drop he)

theorem store_nil {w : World} (P : Program) (A : Option Addr) : (((match A with | some a => storeCells a ([] : List Value) | none => pure ()) : Sem Unit).run P w) = .ok () w := by cases A <;> rfl

/-- A part of an array of the call's own is written: whole elements. -/
theorem write_elems {κ : Kap} {R : Nat → Prop} {h' : Nat → Ob} {w : World} {P : Program} {slot off len s n : Nat} {es new : List (List PC)} {newys : List Value} {A : Option Addr} {cap : Nat} (hH : HRep G κ R h' w) (hob : h' slot = .arr s false es) (hol : off + len ≤ es.length) (hn : n ≤ len) (hnn : new.length = n)
    (hc : CRep κ R h' w (.own slot off len) (.slice A len cap)) (hall : ∀ e ∈ new, e.length = s) (hnew : PReps R w new.flatten newys) :
    ∃ w', (((match A with | some a => storeCells a newys | none => pure ()) : Sem Unit).run P w) = .ok () w' ∧ HRep G κ R (putsF h' [.obj slot (.arr s false (splice es off new))]) w' ∧ Fr κ R h' w κ R (putsF h' [.obj slot (.arr s false (splice es off new))]) w' := by
  have hnl : newys.length = n * s := by rw [← hnew.1, flat_len hall, hnn]
  have hones : ∀ v ∈ newys, v.oneCell' = true := by
    intro v hv'
    obtain ⟨k, hk'⟩ := List.mem_iff_getElem?.1 hv'
    have hlt : k < new.flatten.length := by rw [hnew.1]; exact (List.getElem?_eq_some_iff.1 hk').1
    exact (hnew.2 k _ v (List.getElem?_eq_getElem hlt) hk').oneCell
  by_cases hn0 : n * s = 0
  · -- nothing is written
    have hny : newys = [] := List.eq_nil_of_length_eq_zero (by omega)
    subst hny
    have hrun := store_nil (w := w) P A
    have hsp : ∃ es', es' = splice es off new ∧ ∀ i e, es'[i]? = some e → (es[i]? = some e ∨ e = []) ∧ (e = [] → s = 0 ∨ es[i]? = some e) := ⟨_, rfl, fun i e he => by
      rw [splice_get _ _ _ _ (by omega)] at he
      split at he
      · next hin =>
        have hel := hall e (List.mem_of_getElem? he)
        have : s = 0 := by
          rcases Nat.mul_eq_zero.1 hn0 with h0 | h0
          · omega
          · exact h0
        exact ⟨.inr (List.eq_nil_of_length_eq_zero (by omega)), fun _ => .inl this⟩
      · exact ⟨.inl he, fun _ => .inr he⟩⟩
    refine ⟨w, hrun, ?_⟩
    -- the object is as it was, cell by cell
    have hor := hH.obs slot
    rw [hob] at hor
    have hlen : (splice es off new).length = es.length := splice_length _ _ _ (by omega)
    rcases hor with ⟨h1, h2⟩ | ⟨b, o, c, t, fr, h1, h2, h3, h4, h5, h6, h7⟩
    · have hes : splice es off new = es := by
        subst h2
        exact List.eq_nil_of_length_eq_zero (by rw [hlen]; rfl)
      rw [hes]
      have : putsF h' [.obj slot (.arr s false es)] = h' := by funext i; simp only [putsF, List.foldl_cons, List.foldl_nil, Wr.putF]; split <;> simp_all
      rw [this]
      exact ⟨hH, Fr.refl ..⟩
    · have hw : w = { w with heap := w.heap.setIfInBounds b (.cells c t fr) } := by
        have hlt : b < w.heap.size := (Array.getElem?_eq_some_iff.1 h2).1
        have : w.heap.setIfInBounds b (.cells c t fr) = w.heap := by
          apply Array.ext_getElem?
          intro j
          rw [Array.getElem?_setIfInBounds]
          split
          · next e => subst e; first | exact h2.symm | (rw [if_pos hlt]; exact h2.symm)
          · rfl
        rw [this]
      refine step_write hH hw (by rw [hob]; rfl) h1 h2 rfl (by rw [hob]; rfl) (fun h2' he hR hb => .inr ⟨b, o, c, t, fr, h1, hb, h3, fun e => (by cases e), fun _ => hR, by rw [hlen]; exact h6, fun i e hi => ?_⟩)
      rw [splice_get _ _ _ _ (by omega)] at hi
      split at hi
      · have hel := hall e (List.mem_of_getElem? hi)
        refine ⟨hel, fun j x hj => ?_⟩
        have : s = 0 := by
          rcases Nat.mul_eq_zero.1 hn0 with h0 | h0
          · omega
          · exact h0
        have hlt := (List.getElem?_eq_some_iff.1 hj).1
        omega
      · obtain ⟨q1, q2⟩ := h7 i e hi
        exact ⟨q1, fun j x hj => by obtain ⟨z, hz, hr⟩ := q2 j x hj; exact ⟨z, hz, hr.ext he.r he.cells⟩⟩
  · cases hc with
    | ownDead _ _ _ _ hd => rw [hob] at hd; cases hd
    | own _ _ _ _ _ s1 g1 g2 g3 g4 =>
      rw [hob] at g1; simp only [Ob.stride, Option.some.injEq] at g1; subst g1
      have hnpos : 0 < n := Nat.pos_of_ne_zero fun e => hn0 (by rw [e]; simp)
      rcases g4 with g4 | ⟨b, o, e1, e2, e3⟩
      · omega
      · subst e2
        have hor := hH.obs slot
        rw [hob] at hor
        rcases hor with ⟨h1, h2⟩ | ⟨b', o', c, t, fr, h1, h2, h3, h4, h5, h6, h7⟩
        · rw [e1] at h1; cases h1
        · rw [e1] at h1; cases h1
          have hb2 : off * s + n * s ≤ es.length * s := by rw [← Nat.add_mul]; exact Nat.mul_le_mul_right _ (by omega)
          have hst := run_storeCells P newys w b (o + off * s) 0 c t fr h2 h3 hones (by omega)
          refine ⟨_, hst, ?_⟩
          refine step_write hH rfl (by rw [hob]; rfl) e1 h2 (setRange_size _ _ _) (by rw [hob]; rfl) (fun h2' he hR hb => .inr ⟨b, o, _, t, fr, e1, hb, ?_, fun e => (by cases e), fun _ => hR, ?_, fun i e hi => ?_⟩)
          · intro j hj; exact h3 j (by rwa [setRange_size] at hj)
          · rw [setRange_size, splice_length _ _ _ (by omega)]; exact h6
          · rw [splice_get _ _ _ _ (by omega)] at hi
            split at hi
            · next hin =>
              have hel := hall e (List.mem_of_getElem? hi)
              refine ⟨hel, fun j x hj => ?_⟩
              have hjl : j < s := by rw [← hel]; exact (List.getElem?_eq_some_iff.1 hj).1
              have hf := flat_get hall hi hj
              have hb3 : (i - off) * s + s ≤ n * s := by
                have := Nat.mul_le_mul_right s (show i - off + 1 ≤ n by omega)
                rw [Nat.add_mul] at this; omega
              have hb4 : off * s + (i - off) * s = i * s := by rw [← Nat.add_mul]; congr 1; omega
              have hlt2 : (i - off) * s + j < newys.length := by omega
              refine ⟨newys[(i - off) * s + j], ?_, (hnew.2 _ x _ hf (List.getElem?_eq_getElem hlt2)).ext he.r he.cells⟩
              rw [setRange_get _ _ _ _ (by omega), if_pos (by omega), ← List.getElem?_eq_getElem hlt2]
              congr 1; omega
            · next hin =>
              obtain ⟨q1, q2⟩ := h7 i e hi
              refine ⟨q1, fun j x hj => ?_⟩
              obtain ⟨z, hz, hr⟩ := q2 j x hj
              have hjl : j < s := by rw [← q1]; exact (List.getElem?_eq_some_iff.1 hj).1
              refine ⟨z, ?_, hr.ext he.r he.cells⟩
              rw [setRange_get _ _ _ _ (by omega), if_neg]
              · exact hz
              · intro hin2
                rcases Nat.lt_or_ge i off with hlo | hhi
                · have := Nat.mul_le_mul_right s (show i + 1 ≤ off from hlo)
                  rw [Nat.add_mul] at this; omega
                · have hge : off + n ≤ i := by omega
                  have := Nat.mul_le_mul_right s hge
                  rw [Nat.add_mul] at this; omega

theorem vals_two {κ : Kap} {R : Nat → Prop} {h' : Nat → Ob} {w : World} {a : Act} {args : Array Operand} {x y : AV} (h1 : [x, y].length = args.toList.length) (h2 : ∀ (i : Nat) (v : AV) (z : Value), [x, y][i]? = some v → (args.toList.map a.eval)[i]? = some z → VRep κ R h' w v z) :
    ∃ p q, args.map a.eval = #[p, q] ∧ VRep κ R h' w x p ∧ VRep κ R h' w y q := by
  obtain ⟨l⟩ := args
  match l, h1 with
  | [p, q], _ => exact ⟨a.eval p, a.eval q, by simp, h2 0 x _ rfl rfl, h2 1 y _ rfl rfl⟩
theorem vals_one {κ : Kap} {R : Nat → Prop} {h' : Nat → Ob} {w : World} {a : Act} {args : Array Operand} {x : AV} (h1 : [x].length = args.toList.length) (h2 : ∀ (i : Nat) (v : AV) (z : Value), [x][i]? = some v → (args.toList.map a.eval)[i]? = some z → VRep κ R h' w v z) :
    ∃ p, args.map a.eval = #[p] ∧ VRep κ R h' w x p := by
  obtain ⟨l⟩ := args
  match l, h1 with
  | [p], _ => exact ⟨a.eval p, by simp, h2 0 x _ rfl rfl⟩

theorem sim_builtin {b : Builtin} {args : Array Operand} {ts : Array TypeId} (h : aop E tm H nb ⟨dst, .call { callee := .builtin b, args, argTypes := ts }, ty, pos, after, guard⟩ K = some r) :
    Does E tm H nb ⟨dst, .call { callee := .builtin b, args, argTypes := ts }, ty, pos, after, guard⟩ K r := by
  simp only [aop, Option.bind_eq_some_iff] at h
  obtain ⟨vs, hvs, h⟩ := h
  have hvals : ∀ {out : Out} {t' : Nat → AV} {h' : Nat → Ob} {κ : Kap} {R : Nat → Prop} {a : Act} {w : World}, Alike ⟨dst, .call { callee := .builtin b, args, argTypes := ts }, ty, pos, after, guard⟩ tm.length (tget tm) t' (hget H) h' nb out → Rel E.G κ R tm.length t' h' a w →
      vs.length = args.toList.length ∧ ∀ (i : Nat) (v : AV) (y : Value), vs[i]? = some v → (args.toList.map a.eval)[i]? = some y → VRep κ R h' w v y := fun hal hrel =>
    opnds_rep hrel args.toList vs hvs (fun x hx => hal.opnd (by simp only [Op.operands, Call.operands, Array.empty_append]; simpa using hx))
  generalize hts : ts.toList = tl at h
  unfold builtinV at h
  split at h
  · -- len of a string
    next t s =>
    split at h
    · next hu =>
      refine ⟨_, h, .of_value fun t' h' κ R a w hal hrel => ?_⟩
      obtain ⟨h1, h2⟩ := hvals hal hrel
      obtain ⟨p, hp, hr⟩ := vals_one h1 h2
      have := val_rep (x := .string s) rfl hr
      subst this
      have ht0 : ts[0]? = some t := by rw [← Array.getElem?_toList, hts]; rfl
      refine ⟨_, ?_, rep_ints _ _⟩
      rw [run_builtin, hp]
      simp only [builtin, Sem.run_bind, run_len_string ht0 hu, Result.andThen_ok, Sem.run_pure]
    · cases h
  · next t x _ =>
    split at h
    · next e c hu _ =>
      simp only [Option.bind_eq_some_iff] at h
      obtain ⟨ln, hln, h⟩ := h
      refine ⟨_, h, .of_value fun t' h' κ R a w hal hrel => ?_⟩
      obtain ⟨h1, h2⟩ := hvals hal hrel
      obtain ⟨p, hp, hr⟩ := vals_one h1 h2
      obtain ⟨A, cap, rfl⟩ := lenOf_rep (n := ln.1) (rd := ln.2) hln hal.regs hr
      have ht0 : ts[0]? = some t := by rw [← Array.getElem?_toList, hts]; rfl
      refine ⟨_, ?_, rep_ints _ _⟩
      rw [run_builtin, hp]
      simp only [builtin, Sem.run_bind, run_len_slice ht0 hu, Result.andThen_ok, Sem.run_pure]
    · next n e hu _ =>
      refine ⟨_, h, .of_value fun t' h' κ R a w hal hrel => ?_⟩
      obtain ⟨h1, h2⟩ := hvals hal hrel
      obtain ⟨p, hp, hr⟩ := vals_one h1 h2
      have ht0 : ts[0]? = some t := by rw [← Array.getElem?_toList, hts]; rfl
      refine ⟨_, ?_, rep_ints _ _⟩
      rw [run_builtin, hp]
      simp only [builtin, Sem.run_bind, run_len_array ht0 hu, Result.andThen_ok, Sem.run_pure]
    · cases h
  · next t t2 rest x y =>
    -- append
    have ht0 : ts[0]? = some t := by rw [← Array.getElem?_toList, hts]; rfl
    have ht1 : ts[1]? = some t2 := by rw [← Array.getElem?_toList, hts]; rfl
    split at h
    · next e2 hu2 =>
      simp only [Option.bind_eq_some_iff] at h
      obtain ⟨e, he, h⟩ := h
      split at h
      · obtain ⟨out, hK, hnb, hsim⟩ := appendBox_sim h
        refine ⟨out, hK, fun t' h' κ R a w hal hrel => ?_⟩
        obtain ⟨h1, h2⟩ := hvals hal hrel
        obtain ⟨p, q, hpq, hrx, hry⟩ := vals_two h1 h2
        obtain ⟨κ', y1, w1, e1, e2', e3, e4⟩ := hsim h' κ R w p q ts ty hal.regs (hal.free nb (Nat.le_refl _) hnb) hrel.heap hrx hry ht0 ⟨_, _, ht1, hu2, fun k e => by cases e⟩
        refine ⟨κ', R, y1, w1, .inl ?_, e2', e3, e4⟩
        rw [run_builtin, hpq]
        simp only [builtin, Sem.run_bind, e1, Result.andThen_ok, Sem.run_pure]
      · simp only [Option.bind_eq_some_iff] at h
        obtain ⟨s, hs, er, her, h⟩ := h
        obtain ⟨out, hK, hrdo, hnb, hsim⟩ := appendTo_sim h
        refine ⟨out, hK, fun t' h' κ R a w hal hrel => ?_⟩
        obtain ⟨h1, h2⟩ := hvals hal hrel
        obtain ⟨p, q, hpq, hrx, hry⟩ := vals_two h1 h2
        have hs0 : 0 < s := by
          unfold appendTo at h
          simp only [Option.bind_eq_some_iff] at h
          obtain ⟨e', he', s', hs', _, _, _, _, h⟩ := h
          rw [he] at he'; cases he'
          rw [hs] at hs'; cases hs'
          split at h
          · next hc => exact hc.2.1
          · cases h
        obtain ⟨A, cap, ys, hq, hlc, hall, hreps, hfirst⟩ := elems_rep hs0 (es := er.1) (rd := er.2) her (fun z hz => hal.regs z (hrdo z hz)) hrel.heap hry
        subst hq
        obtain ⟨κ', y1, w1, e1, e2', e3, e4⟩ := hsim e s he hs h' κ R w p _ ts ty ys hal.regs (hal.free nb (Nat.le_refl _) hnb) hrel.heap hrx hall hreps ht0 ⟨_, _, ht1, hu2, fun k e => by cases e⟩ rfl (fun w' hw => hfirst E.P w' hw)
        refine ⟨κ', R, y1, w1, .inl ?_, e2', e3, e4⟩
        rw [run_builtin, hpq]
        simp only [builtin, Sem.run_bind, e1, Result.andThen_ok, Sem.run_pure]
    · next hu2 =>
      simp only [Option.bind_eq_some_iff] at h
      obtain ⟨e, he, s, hs, h⟩ := h
      split at h
      · next hs1 =>
        subst hs1
        split at h
        · next b =>
          obtain ⟨out, hK, hrdo, hnb, hsim⟩ := appendTo_sim h
          refine ⟨out, hK, fun t' h' κ R a w hal hrel => ?_⟩
          obtain ⟨h1, h2⟩ := hvals hal hrel
          obtain ⟨p, q, hpq, hrx, hry⟩ := vals_two h1 h2
          have := val_rep (x := .string b) rfl hry
          subst this
          have hlen : (bytesPC b.data.toList).length = b.size := by unfold bytesPC; rw [List.length_map, Array.length_toList]; rfl
          have hflat : ∀ l : List UInt8, (bytesPC l).flatten = l.map fun x => PC.v (.int .u8 x.toNat) := by
            intro l; induction l with
            | nil => rfl
            | cons x l ih => simp only [bytesPC, List.map_cons, List.flatten_cons] at ih ⊢; rw [ih]; rfl
          obtain ⟨κ', y1, w1, e1, e2', e3, e4⟩ := hsim e 1 he hs h' κ R w p (.string b) ts ty (b.data.toList.map fun x => .int .u8 x.toNat) hal.regs (hal.free nb (Nat.le_refl _) hnb) hrel.heap hrx
            (fun l hl => by simp only [bytesPC, List.mem_map] at hl; obtain ⟨x, _, rfl⟩ := hl; rfl)
            (by
              rw [hflat]
              refine ⟨by simp, fun i c y h1 h2 => ?_⟩
              rw [List.getElem?_map] at h1 h2
              cases hb : b.data.toList[i]? with
              | none => rw [hb] at h1; cases h1
              | some u => rw [hb] at h1 h2; cases h1; cases h2; exact .v _ rfl) ht0 ⟨_, _, ht1, hu2, fun k e => by cases e⟩ (by rw [hlen]; rfl)
            (fun w' hw => by
              rw [hlen]
              show Result.ok _ _ = _
              congr 1
              apply Array.ext'
              rw [show b.extract 0 b.size = b from ByteArray.extract_zero_size]
              simp)
          refine ⟨κ', R, y1, w1, .inl ?_, e2', e3, e4⟩
          rw [run_builtin, hpq]
          simp only [builtin, Sem.run_bind, e1, Result.andThen_ok, Sem.run_pure]
        · cases h
      · cases h
    · cases h
  · -- copy
    next t t2 slot off len y =>
    simp only [Option.bind_eq_some_iff] at h
    obtain ⟨e, he, s, hs, er, her, h⟩ := h
    have hu : E.P.underlying t = some (.slice e) := by
      unfold elemT at he
      split at he
      · next hu => cases he; exact hu
      · cases he
    split at h
    · next s' es hob =>
      split at h
      · next hcond =>
        obtain ⟨hss, hol, hs0⟩ := hcond
        subst hss
        refine ⟨_, h, fun t' h' κ R a w hal hrel => ?_⟩
        obtain ⟨h1, h2⟩ := hvals hal hrel
        obtain ⟨p, q, hpq, hrx, hry⟩ := vals_two h1 h2
        have ht0 : ts[0]? = some t := by rw [← Array.getElem?_toList, hts]; rfl
        have hsl := regs_ob hob (hal.regs (.obj slot) (by simp))
        obtain ⟨A2, cap2, ys, hq, hlc, hall, hreps, hfirst⟩ := elems_pre hs0 (es := er.1) (rd := er.2) her (fun z hz => hal.regs z (by simp [hz])) hrel.heap hry
        subst hq
        obtain ⟨A, cap, rfl⟩ := lenOf_rep (H := H) (c := .own slot off len) (n := len) (rd := [.obj slot]) (by simp [lenOf, hob]) (fun z hz => hal.regs z (by simp at hz; simp [hz])) hrx
        have hpre : PReps R w (er.1.take (min er.1.length len)).flatten (ys.take (min er.1.length len * s)) := by
          have hfl : (er.1.take (min er.1.length len)).flatten = er.1.flatten.take (min er.1.length len * s) := by
            have key : ∀ (l : List (List PC)) (n : Nat), (∀ e ∈ l, e.length = s) → (l.take n).flatten = l.flatten.take (n * s) := by
              intro l
              induction l with
              | nil => intro n _; simp
              | cons x l ih =>
                intro n hl
                cases n with
                | zero => simp
                | succ n =>
                  have hx := hl x (by simp)
                  rw [List.take_succ_cons, List.flatten_cons, List.flatten_cons, ih n (fun e he => hl e (by simp [he])), List.take_append, hx]
                  have e1 : x.take ((n + 1) * s) = x := List.take_of_length_le (by rw [hx, Nat.add_mul]; omega)
                  have e2 : (n + 1) * s - s = n * s := by rw [Nat.add_mul]; omega
                  rw [e1, e2]
            exact key er.1 _ hall
          rw [hfl]
          have := hreps.drop 0 (min er.1.length len * s)
          simpa using this
        obtain ⟨w1, g1, g2, g3⟩ := write_elems (G := E.G) (P := E.P) hrel.heap hsl hol (Nat.min_le_right er.1.length len) (by simp) hrx (fun e he => hall e (List.mem_of_mem_take he)) hpre
        refine ⟨κ, R, .int .i64 (min er.1.length len : Nat), w1, .inl ?_, rep_ints _ _, g2, g3⟩
        rw [run_builtin, hpq]
        simp only [builtin, Sem.run_bind]
        have hcopy : (Builtin.copy_ ts ty #[.slice A len cap, .slice A2 er.1.length cap2]).run E.P w = .ok (.int .i64 (min er.1.length len : Nat)) w1 := by
          unfold Builtin.copy_
          have ha0 : (#[Value.slice A len cap, .slice A2 er.1.length cap2] : Array Value)[0]? = some (.slice A len cap) := rfl
          have ha1 : (#[Value.slice A len cap, .slice A2 er.1.length cap2] : Array Value)[1]? = some (.slice A2 er.1.length cap2) := rfl
          rw [ht0, ha0, ha1]
          have hl2 : (Builtin.lenOf (.slice A2 er.1.length cap2)).run E.P w = .ok er.1.length w := rfl
          simp only [Sem.run_bind, run_underlying' hu, Result.andThen_ok, hl2, run_sizeOf' hs]
          have := hfirst E.P w (Nat.min er.1.length len) (Nat.min_le_left _ _) rfl
          rw [this]
          simp only [Result.andThen_ok]
          cases A with
          | none =>
            simp only [Sem.run_pure] at g1 ⊢
            cases g1
            rfl
          | some ad =>
            simp only [Sem.run_bind]
            have g1' : (storeCells ad (ys.take (min er.1.length len * s))).run E.P w = .ok () w1 := g1
            have hn : Nat.min er.1.length len = min er.1.length len := rfl
            rw [hn, g1']
            rfl
        rw [hcopy]
        rfl
      · cases h
    · cases h
  · -- clear
    next t slot off len =>
    simp only [Option.bind_eq_some_iff] at h
    obtain ⟨e, he, s, hs, z, hz, h⟩ := h
    have hu : E.P.underlying t = some (.slice e) := by
      unfold elemT at he
      split at he
      · next hu => cases he; exact hu
      · cases he
    split at h
    · next s' es hob =>
      split at h
      · next hcond =>
        obtain ⟨hss, hzl, hol, hlen0, hs0⟩ := hcond
        subst hss
        refine ⟨_, h, fun t' h' κ R a w hal hrel => ?_⟩
        obtain ⟨h1, h2⟩ := hvals hal hrel
        obtain ⟨p, hp, hrx⟩ := vals_one h1 h2
        have ht0 : ts[0]? = some t := by rw [← Array.getElem?_toList, hts]; rfl
        have hsl := regs_ob hob (hal.regs (.obj slot) (by simp))
        obtain ⟨A, cap, rfl⟩ := lenOf_rep (H := H) (c := .own slot off len) (n := len) (rd := [.obj slot]) (by simp [lenOf, hob]) (fun z hz => hal.regs z (by simp at hz; simp [hz])) hrx
        obtain ⟨zv, z1, z2, z3⟩ := run_zero' hz w
        have hzreps : PReps R w (List.replicate len (z.map PC.v)).flatten (List.replicate len z).flatten := by
          have : (List.replicate len (z.map PC.v)).flatten = ((List.replicate len z).flatten).map PC.v := by
            rw [List.map_flatten, List.map_replicate]
          rw [this]
          exact preps_vals (fun x hx => by
            simp only [List.mem_flatten, List.mem_replicate] at hx
            obtain ⟨l, ⟨_, rfl⟩, hx⟩ := hx
            exact z3 x hx)
        obtain ⟨w1, g1, g2, g3⟩ := write_elems (G := E.G) (P := E.P) hrel.heap hsl hol (Nat.le_refl len) (by simp) hrx (fun e he => by simp only [List.mem_replicate] at he; rw [he.2]; simpa using hzl) hzreps
        refine ⟨κ, R, .tuple #[], w1, .inl ?_, ⟨[], rfl, rfl, fun i x y h => by simp at h⟩, g2, g3⟩
        rw [run_builtin, hp]
        simp only [builtin, Sem.run_bind]
        have hclear : (Builtin.clear_ ts ty #[.slice A len cap]).run E.P w = .ok (.tuple #[]) w1 := by
          unfold Builtin.clear_
          have ha0 : (#[Value.slice A len cap] : Array Value)[0]? = some (.slice A len cap) := rfl
          rw [ht0, ha0]
          simp only [Sem.run_bind, run_underlying' hu, Result.andThen_ok]
          have hA : ∃ ad, A = some ad := by
            cases hrx with
            | ownDead _ _ _ _ hd => rw [hsl] at hd; cases hd
            | own _ _ _ _ _ s0 q1 q2 q3 q4 =>
              cases A with
              | none => have := q3 rfl; omega
              | some ad => exact ⟨ad, rfl⟩
          obtain ⟨ad, rfl⟩ := hA
          obtain ⟨m, rfl⟩ : ∃ m, len = m + 1 := ⟨len - 1, by omega⟩
          simp only [Sem.run_bind, z1, Result.andThen_ok]
          have hzc : (Builtin.zeroCells zv.cells (m + 1)).toList = (List.replicate (m + 1) z).flatten := by
            have hzv : zv.cells = z.toArray := by rw [← z2]
            rw [← zeros_list hzl hs0 (m + 1), hzv]
            simp [Builtin.zeroCells, hzl]
          rw [hzc]
          have g1' : (storeCells ad (List.replicate (m + 1) z).flatten).run E.P w = .ok () w1 := g1
          rw [g1']
          rfl
        rw [hclear]
        rfl
      · cases h
    · cases h
  · -- min
    next k n rest =>
    simp only [Option.bind_eq_some_iff] at h
    obtain ⟨l, hl, h⟩ := h
    refine ⟨_, h, .of_value fun t' h' κ R a w hal hrel => ?_⟩
    obtain ⟨h1, h2⟩ := hvals hal hrel
    have hys := intsOf_vals (k := k) (_ :: rest) (n :: l) (args.toList.map a.eval) (by simp [intsOf, hl]) (by simpa using h1) h2
    refine ⟨_, ?_, rep_ints _ _⟩
    rw [run_builtin]
    simp only [builtin, Sem.run_bind, Builtin.min_, Array.toList_map, hys, List.map_cons, run_mins, Result.andThen_ok, Sem.run_pure]
  · next k n rest =>
    simp only [Option.bind_eq_some_iff] at h
    obtain ⟨l, hl, h⟩ := h
    refine ⟨_, h, .of_value fun t' h' κ R a w hal hrel => ?_⟩
    obtain ⟨h1, h2⟩ := hvals hal hrel
    have hys := intsOf_vals (k := k) (_ :: rest) (n :: l) (args.toList.map a.eval) (by simp [intsOf, hl]) (by simpa using h1) h2
    refine ⟨_, ?_, rep_ints _ _⟩
    rw [run_builtin]
    simp only [builtin, Sem.run_bind, Builtin.max_, Array.toList_map, hys, List.map_cons, run_maxs, Result.andThen_ok, Sem.run_pure]
  · cases h

end ops
end Go.Ev

namespace Go.Ev
open Go
variable {G : Nat → Option (List PC)}

section ops
variable {ρ : Type} {E : Env} {tm : List AV} {H : List Ob} {nb : Nat} {K : Out → Option ρ} {r : ρ}
variable {dst : Option Tmp} {ty : TypeId} {pos : String} {after : Array Edge} {guard : Option (Nat × Bool)}

theorem wrap_small {l : Int} (h0 : 0 ≤ l) (h1 : l ≤ 140737488355328) : IntKind.i64.wrap l = l := by
  have hm : l % (2 ^ IntKind.i64.bits : Int) = l := Int.emod_eq_of_lt h0 (by show l < 2 ^ 64; omega)
  have hb : ¬ (l ≥ (2 ^ (IntKind.i64.bits - 1) : Int)) := by show ¬ (l ≥ 2 ^ 63); omega
  unfold IntKind.wrap
  simp only [hm]
  simp [hb]

theorem run_makeSlice {P : Program} {w : World} {t e : TypeId} {s by_ : Nat} {z : List Value} {l c : Int} (hu : P.underlying t = some (.slice e)) (hs : szOf P e = some s) (hby : bytesOfT P e = some by_) (hz : zeroCells P e = some z) (hzl : z.length = s) (hs0 : 0 < s) (hb0 : 0 < by_)
    (h0 : 0 ≤ l) (h1 : l ≤ c) (h2 : c * by_ ≤ 140737488355328) :
    ∃ rest : List Value, (Instr.makeSlice t (.int .i64 l) (.int .i64 c)).run P w = .ok (.slice (some ⟨w.heap.size, 0, none⟩) l.toNat c.toNat) (w.alloc (.cells ((List.replicate l.toNat z).flatten ++ rest).toArray e)) ∧ rest.length = (c.toNat - l.toNat) * s := by
  obtain ⟨zv, z1, z2, z3⟩ := run_zero' hz w
  have hc : c ≤ 140737488355328 := by
    have : c * 1 ≤ c * by_ := Int.mul_le_mul_of_nonneg_left (by omega) (by omega)
    omega
  obtain ⟨i, hi, hib⟩ : ∃ i, P.info? e = some i ∧ i.bytes = by_ := by
    unfold bytesOfT at hby
    simp only [Option.map_eq_some_iff] at hby
    exact hby
  have hti : (typeInfo e).run P w = .ok i w := by simp [typeInfo, hi]
  have hwl := wrap_small h0 (by omega : l ≤ 140737488355328)
  have hwc := wrap_small (by omega : 0 ≤ c) hc
  have hcond : ((decide (c < 0) || decide ((i.bytes : Int) * c > 2 ^ 48)) || decide (l < 0) || decide (l > c)) = false := by
    have : (i.bytes : Int) * c ≤ 140737488355328 := by rw [hib, Int.mul_comm]; exact h2
    simp
    omega
  refine ⟨(List.replicate (c.toNat - l.toNat) z).flatten, ?_, by simp [hzl]⟩
  have hzv : zv.cells = z.toArray := by rw [← z2]
  have hsplit : (List.replicate l.toNat z).flatten ++ (List.replicate (c.toNat - l.toNat) z).flatten = (List.replicate c.toNat z).flatten := by
    rw [← List.flatten_append, List.replicate_append_replicate]
    congr 2; omega
  rw [hsplit, ← zeros_list hzl hs0 c.toNat]
  unfold Instr.makeSlice
  simp only [Sem.run_bind, run_underlying' hu, Result.andThen_ok, asInt, asIntOf_int, Sem.run_pure, hti, hwl, hwc, hcond, Bool.false_eq_true, if_false, run_askRoom, run_sizeOf' hs]
  by_cases hn : c.toNat * s = 0
  · rw [if_pos hn]
    simp only [Sem.run_pure, Result.andThen_ok, newRow, Sem.run_bind, run_newObj, hn, World.alloc_eq]
    congr 3
    apply Array.ext'
    simp
  · rw [if_neg hn]
    simp only [Sem.run_bind, z1, Result.andThen_ok, Sem.run_pure, newRow, run_newObj, World.alloc_eq, hzv]
    congr 3
    apply Array.ext'
    simp [hzl]

theorem heap_alloc (w : World) (c : Array Value) (t : TypeId) : (w.alloc (.cells c t)).heap[w.heap.size]? = some (.cells c t (0, 0)) := by
  show (w.heap.push _)[w.heap.size]? = _; simp

theorem sim_makeSlice {t : TypeId} {x y : Operand} (h : aop E tm H nb ⟨dst, .makeSlice t x y, ty, pos, after, guard⟩ K = some r) : Does E tm H nb ⟨dst, .makeSlice t x y, ty, pos, after, guard⟩ K r := by
  simp only [aop, Option.bind_eq_some_iff] at h
  obtain ⟨v, hv, u, hu', h⟩ := h
  unfold makeSl at h
  simp only [Option.bind_eq_some_iff] at h
  obtain ⟨e, he, s, hs, by_, hby, z, hz, h⟩ := h
  have hu : E.P.underlying t = some (.slice e) := by
    unfold elemT at he
    split at he
    · next hu => cases he; exact hu
    · cases he
  split at h
  · next hcond =>
    obtain ⟨hzl, hs0, hb0⟩ := hcond
    split at h
    · next l c =>
      by_cases hc : 0 ≤ l ∧ l ≤ c ∧ c * by_ ≤ 140737488355328
      · obtain ⟨h0, h1, h2⟩ := hc
        simp only [h0, h1, h2, decide_true, Bool.and_true, cond_true] at h
        have hrun : ∀ {out : Out} {t' : Nat → AV} {h' : Nat → Ob} {κ : Kap} {R : Nat → Prop} {a : Act} {w : World}, Alike ⟨dst, .makeSlice t x y, ty, pos, after, guard⟩ tm.length (tget tm) t' (hget H) h' nb out → Rel E.G κ R tm.length t' h' a w →
            ∃ rest : List Value, (execOp a.eval ⟨dst, .makeSlice t x y, ty, pos, after, guard⟩).run E.P w = .ok (.value (.slice (some ⟨w.heap.size, 0, none⟩) l.toNat c.toNat)) (w.alloc (.cells ((List.replicate l.toNat z).flatten ++ rest).toArray e)) ∧ rest.length = (c.toNat - l.toNat) * s ∧ ∀ q ∈ z, q.oneCell' = true := by
          intro out t' h' κ R a w hal hrel
          have e1 := val_rep (x := .int .i64 l) rfl (operand_rep hrel hv (hal.opnd (by simp [Op.operands])))
          have e2 := val_rep (x := .int .i64 c) rfl (operand_rep hrel hu' (hal.opnd (by simp [Op.operands])))
          obtain ⟨rest, hr, hl⟩ := run_makeSlice (w := w) hu hs hby hz hzl hs0 hb0 h0 h1 h2
          obtain ⟨_, _, _, z3⟩ := run_zero' hz w
          exact ⟨rest, by simp only [execOp, e1, e2, Sem.run_bind, hr, Result.andThen_ok, Sem.run_pure], hl, z3⟩
        have hsz : ∀ rest : List Value, rest.length = (c.toNat - l.toNat) * s → c.toNat * s ≤ ((List.replicate l.toNat z).flatten ++ rest).toArray.size := by
          intro rest hl
          have : c.toNat * s = l.toNat * s + (c.toNat - l.toNat) * s := by rw [← Nat.add_mul]; congr 1; omega
          simp only [List.size_toArray, List.length_append, hl, List.length_flatten, List.map_replicate, List.sum_replicate_nat, hzl]
          omega
        split at h
        · refine ⟨_, h, fun t' h' κ R a w hal hrel => ?_⟩
          obtain ⟨rest, hr, hl, z3⟩ := hrun hal hrel
          have hbase : CReps κ R h' w (flatZero z l.toNat) (List.replicate l.toNat z).flatten := by
            rw [flatZero_eq]
            exact creps_vals (fun x hx => by
              simp only [List.mem_flatten, List.mem_replicate] at hx
              obtain ⟨l, ⟨_, rfl⟩, hx⟩ := hx
              exact z3 x hx)
          obtain ⟨κ', k1, k2, k3⟩ := new_box' (G := E.G) (nb := nb) (rest := rest) hrel.heap (hal.free nb (Nat.le_refl _) (by simp)) s e hbase
          refine ⟨κ', R, _, _, .inl hr, ?_, k2, k3⟩
          exact own_new (s := s) (by rw [put_get]; rfl) k1 (by omega) (heap_alloc w _ e) (hsz rest hl)
        · refine ⟨_, h, fun t' h' κ R a w hal hrel => ?_⟩
          obtain ⟨rest, hr, hl, z3⟩ := hrun hal hrel
          have hzreps : PReps R w (List.replicate l.toNat (z.map PC.v)).flatten (List.replicate l.toNat z).flatten := by
            have : (List.replicate l.toNat (z.map PC.v)).flatten = ((List.replicate l.toNat z).flatten).map PC.v := by
              rw [List.map_flatten, List.map_replicate]
            rw [this]
            exact preps_vals (fun x hx => by
              simp only [List.mem_flatten, List.mem_replicate] at hx
              obtain ⟨l, ⟨_, rfl⟩, hx⟩ := hx
              exact z3 x hx)
          obtain ⟨κ', k1, k2, k3⟩ := new_arr (G := E.G) (nb := nb) (rest := rest) hrel.heap (hal.free nb (Nat.le_refl _) (by simp)) e (s := s) (es := List.replicate l.toNat (z.map PC.v)) (fun x hx => by simp only [List.mem_replicate] at hx; rw [hx.2]; simpa using hzl) hzreps
          refine ⟨κ', R, _, _, .inl hr, ?_, k2, k3⟩
          exact own_new (s := s) (by rw [put_get]; rfl) k1 (by omega) (heap_alloc w _ e) (hsz rest hl)
      · exfalso
        have : (decide (0 ≤ l) && decide (l ≤ c) && decide (c * by_ ≤ 140737488355328)) = false := by simp; omega
        rw [this] at h; cases h
    · cases h
  · cases h

theorem sim_convert {src dt : TypeId} {x : Operand} (h : aop E tm H nb ⟨dst, .convert src dt x, ty, pos, after, guard⟩ K = some r) : Does E tm H nb ⟨dst, .convert src dt x, ty, pos, after, guard⟩ K r := by
  simp only [aop, Option.bind_eq_some_iff] at h
  obtain ⟨v, hv, h⟩ := h
  unfold convV at h
  split at h
  · next d k k' n hsrc hdt =>
    refine ⟨_, h, .of_value fun t' h' κ R a w hal hrel => ⟨_, ?_, rep_ints k _⟩⟩
    have e := val_rep (x := .int k' n) rfl (operand_rep hrel hv (hal.opnd (by simp [Op.operands])))
    simp only [execOp, convert, Sem.run_bind, run_underlying' hsrc, run_underlying' hdt, Result.andThen_ok, e]
    rfl
  · next d b hsrc hdt =>
    refine ⟨_, h, .of_value fun t' h' κ R a w hal hrel => ⟨.string b, ?_, .p _ _ (.v _ rfl)⟩⟩
    have e := val_rep (x := .string b) rfl (operand_rep hrel hv (hal.opnd (by simp [Op.operands])))
    simp only [execOp, convert, Sem.run_bind, run_underlying' hsrc, run_underlying' hdt, Result.andThen_ok, e]
    rfl
  · next d e s hsrc hdt =>
    split at h
    · next he =>
      refine ⟨_, h, fun t' h' κ R a w hal hrel => ?_⟩
      have e0 := val_rep (x := .string s) rfl (operand_rep hrel hv (hal.opnd (by simp [Op.operands])))
      obtain ⟨cap, hcap⟩ : ∃ cap, cap = (Question.appendCap s.size 0 e).cut (w.tape w.drawn (.appendCap s.size 0 e)) := ⟨_, rfl⟩
      have hcs : s.size ≤ cap := by rw [hcap]; exact Nat.le_add_right _ _
      obtain ⟨c, hc⟩ : ∃ c : Array Value, c = (s.data.map fun b => Value.int .u8 b.toNat) ++ Array.replicate (cap - s.size) (.int .u8 0) := ⟨_, rfl⟩
      have hcsz : c.size = cap := by
        have : s.data.size = s.size := rfl
        rw [hc]; simp [this]; omega
      obtain ⟨w1, hw1⟩ : ∃ w1 : World, w1 = (w.drew.alloc (.cells c e)).freeze ⟨w.heap.size, c.size, none⟩ 1 := ⟨_, rfl⟩
      have hheap : w1.heap = (w.heap.push (.cells c e)).modify w.heap.size fun
          | .cells c elem (lo, hi) => .cells c elem (if lo == hi then (c.size, c.size + 1) else (min lo c.size, max hi (c.size + 1)))
          | o => o := by
        rw [hw1]
        unfold World.freeze
        rw [if_neg (by omega)]
        apply Array.ext_getElem?
        intro j
        simp only [Array.getElem?_modify]
        split
        · next hj => subst hj; show Option.map _ (w.heap.push (Obj.cells c e))[w.heap.size]? = _; simp
        · rfl
      have hblock : w1.heap[w.heap.size]? = some (.cells c e (c.size, c.size + 1)) := by
        rw [hheap, Array.getElem?_modify, if_pos rfl]
        simp
      have hrun : (execOp a.eval ⟨dst, .convert src dt x, ty, pos, after, guard⟩).run E.P w = .ok (.value (.slice (some ⟨w.heap.size, 0, none⟩) s.size cap)) w1 := by
        simp only [execOp, convert, Sem.run_bind, run_underlying' hsrc, run_underlying' hdt, Result.andThen_ok, e0, run_underlying' he, Conv.stringToBytes, run_choose, Question.forced, Bool.false_eq_true, if_false, newRow, run_newObj, Sem.run_pure, markStringish, run_shape, ← hcap, ← hc]
        have hsh : (World.shape? ({ w with drawn := w.drawn + 1, heap := w.heap.push (.cells c e) } : World) w.heap.size) = some (e, c.size) := by
          simp [World.shape?]
        rw [hsh]
        simp only [run_freeze, Result.andThen_ok]
        rw [hw1]
        rfl
      obtain ⟨d1, d2⟩ := step_drew hrel.heap
      have hv2 : h' nb = .void := hal.free nb (Nat.le_refl _) (by simp)
      have hdata : ∀ l : List UInt8, (bytesPC l).length = l.length := fun l => by simp [bytesPC]
      have he' : putsF h' [.obj nb (.arr 1 false (bytesPC s.data.toList))] = fun i => if i = nb then .arr 1 false (bytesPC s.data.toList) else if (fun _ => false : Nat → Bool) i then .dead else h' i := by
        funext i; simp [putsF, Wr.putF]
      have hos : w1.os = w.os := by rw [hw1]; unfold World.freeze; rw [if_neg (by omega)]; rfl
      have htp : w1.tape = w.tape := by rw [hw1]; unfold World.freeze; rw [if_neg (by omega)]; rfl
      have hout : w1.output = w.output := by rw [hw1]; unfold World.freeze; rw [if_neg (by omega)]; rfl
      have hstep := step_put d1 nb w.heap.size 0 (.arr 1 false (bytesPC s.data.toList)) (fun _ => false) (w' := w1) hos htp hout (by rw [hheap]; simp) (by rw [hheap]; simp)
        (fun x hx hlt => by
          rw [hheap, Array.getElem?_modify, if_neg (fun e => hx e.symm), Array.getElem?_push, if_neg (fun e => hx e)]
          rfl)
        (fun c0 t0 fr0 hx => by have := (Array.getElem?_eq_some_iff.1 hx).1; have h2 : w.drew.heap.size = w.heap.size := rfl; omega)
        (.inl (Nat.le_refl _)) (.inl hv2) rfl (fun hext hR => by
          refine .inr ⟨w.heap.size, 0, c, e, (c.size, c.size + 1), by simp [updN], hblock, ?_, fun hz => (by cases hz), fun _ => hR, ?_, fun i l hi => ?_⟩
          · intro j hj hh; omega
          · rw [hdata, hcsz]
            have : s.data.toList.length = s.size := by rw [Array.length_toList]; rfl
            omega
          · unfold bytesPC at hi
            rw [List.getElem?_map] at hi
            cases hb : s.data.toList[i]? with
            | none => rw [hb] at hi; cases hi
            | some u =>
              rw [hb] at hi; cases hi
              refine ⟨rfl, fun j x' hj => ?_⟩
              cases j with
              | succ j => cases hj
              | zero =>
                cases hj
                refine ⟨.int .u8 u.toNat, ?_, .v _ rfl⟩
                have hlt := (List.getElem?_eq_some_iff.1 hb).1
                rw [Array.length_toList] at hlt
                rw [hc, Nat.zero_add, Nat.mul_one, Nat.add_zero, Array.getElem?_append_left (by simpa using hlt), Array.getElem?_map]
                have : s.data[i]? = some u := by rw [← Array.getElem?_toList]; exact hb
                rw [this]; rfl)
      refine ⟨updN κ nb (some (w.heap.size, 0)), R, _, w1, .inl hrun, ?_, by rw [he']; exact hstep.1, by rw [he']; exact d2.trans hstep.2⟩
      refine .own nb 0 s.size cap _ 1 (by rw [put_get]; rfl) hcs (fun e => by cases e) (.inr ⟨w.heap.size, 0, by simp [updN], by simp, c, e, _, hblock, by omega⟩)
    · cases h
  · cases h

/-- Every operation that calls nothing. -/
theorem aop_sim {o : Oper} (h : aop E tm H nb o K = some r) : Does E tm H nb o K r := by
  obtain ⟨dst, op, ty, pos, after, guard⟩ := o
  cases op with
  | move x => exact sim_move h
  | assign x => exact sim_assign h
  | pick c a b => exact sim_pick h
  | alloc t => exact sim_alloc h
  | box t x => exact sim_box h
  | build t ps => exact sim_build h
  | buildSlice t n ps => exact sim_buildSlice h
  | load t a => exact sim_load h
  | store t a x => exact sim_store h
  | nilCheck x => exact sim_nilCheck h
  | binOp op t x y t' => exact sim_binOp h
  | unOp op t x => exact sim_unOp h
  | convert a b x => exact sim_convert h
  | makeFunc fn first captured =>
    cases fn with
    | func f => exact sim_makeFunc h
    | _ => cases h
  | makeSlice t l c => exact sim_makeSlice h
  | slice t x lo hi mx => exact sim_slice h
  | fieldAddr t x f => exact sim_fieldAddr h
  | field t x f => exact sim_field h
  | indexAddr t x i => exact sim_indexAddr h
  | index t x i => exact sim_index h
  | extract t i => exact sim_extract h
  | call c =>
    obtain ⟨callee, args, ts⟩ := c
    cases callee with
    | builtin b => exact sim_builtin h
    | _ => cases h
  | _ => cases h

end ops
end Go.Ev

namespace Go.Ev
open Go
variable {G : Nat → Option (List PC)}

/-- A slice in new memory. -/
def FrRep (R : Nat → Prop) (w : World) (U : Nat → Prop) (s : Nat) (es : List (List PC)) (z : Value) (K : (Nat → Prop) → Prop) : Prop :=
  ∃ (A : Option Addr) (cap : Nat), z = .slice A es.length cap ∧ es.length ≤ cap ∧ (A = none → cap = 0) ∧
    ((cap = 0 ∧ K U) ∨ ∃ (b o : Nat) (c : Array Value) (ty : TypeId) (fr : Nat × Nat), A = some ⟨b, o, none⟩ ∧ ¬ U b ∧ w.heap[b]? = some (.cells c ty fr) ∧ thawed c fr ∧ o + cap * s ≤ c.size ∧
      (∀ (i : Nat) (e : List PC), es[i]? = some e → e.length = s ∧ ∀ (j : Nat) (x : PC), e[j]? = some x → ∃ y, c[o + i * s + j]? = some y ∧ PRep R w x y) ∧ K (fun x => U x ∨ x = b))

/-- The cells of results; U: the blocks that are not new. -/
def ResRep (R : Nat → Prop) (w : World) : (U : Nat → Prop) → (ks : List RK) → RTup ks → List Value → Prop
  | _, [], _, zs => zs = []
  | U, .rd q :: ks, t, zs => ∃ (z : Value) (rest : List Value), zs = z :: rest ∧ PRep R w (q.enc t.1) z ∧ ResRep R w U ks t.2 rest
  | U, .fr s :: ks, t, zs => ∃ (z : Value) (rest : List Value), zs = z :: rest ∧ FrRep R w U s t.1 z (fun U' => ResRep R w U' ks t.2 rest)

theorem CReps.cons {κ : Kap} {R : Nat → Prop} {h : Nat → Ob} {w : World} {c : C} {cs : List C} {zs : List Value} (hc : CReps κ R h w (c :: cs) zs) : ∃ z rest, zs = z :: rest ∧ CRep κ R h w c z ∧ CReps κ R h w cs rest := by
  match zs, hc.1 with
  | z :: rest, hl => exact ⟨z, rest, rfl, hc.2 0 c z rfl rfl, by simpa using hl, fun i c' y h1 h2 => hc.2 (i + 1) c' y (by simpa using h1) (by simpa using h2)⟩

theorem hget_some {H : List Ob} {s : Nat} {ob : Ob} (h : H[s]? = some ob) : hget H s = ob := by simp [hget, h]

theorem outCs_rep {H : List Ob} {κ : Kap} {R : Nat → Prop} {w : World} (hH : HRep G κ R (hget H) w) : ∀ (ks : List RK) (used : List Nat) (cs : List C) (t : RTup ks) (zs : List Value), outCs H used ks cs = some t → CReps κ R (hget H) w cs zs →
    ∃ X Y : List Nat, (∀ s ∈ X, s ∉ used) ∧ (∀ s ∈ Y, s ∉ used ∧ (hget H s).live = true) ∧ (∀ s ∈ X, s ∉ Y) ∧ (∀ s ∈ X, (hget H s).stride ≠ none) ∧
      ∀ (R' U : Nat → Prop), (∀ b, R b → R' b) → (∀ s ∈ X, ∀ b o, κ s = some (b, o) → R' b) → (∀ b, U b → ∀ s ∈ Y, ∀ o, κ s ≠ some (b, o)) → ResRep R' w U ks t zs
  | [], used, [], t, zs, h, hc => ⟨[], [], by simp, by simp, by simp, by simp, fun R' U _ _ _ => by
      exact List.length_eq_zero_iff.1 (by simpa using hc.1.symm)⟩
  | [], _, _ :: _, _, _, h, _ => by cases h
  | _ :: _, _, [], _, _, h, _ => by cases h
  | k :: ks, used, c :: cs, t, zs, h, hc => by
    obtain ⟨z, rest, rfl, hz, hrest⟩ := hc.cons
    simp only [outCs, Option.bind_eq_some_iff] at h
    obtain ⟨⟨x, used'⟩, hx, t', ht', h3⟩ := h
    cases h3
    obtain ⟨X, Y, hX, hY, hXY, hXs, hres⟩ := outCs_rep hH ks used' cs t' rest ht' hrest
    unfold outC at hx
    split at hx
    · next q p =>
      obtain ⟨x', hx', h4⟩ := Option.map_eq_some_iff.1 hx
      cases h4
      refine ⟨X, Y, hX, hY, hXY, hXs, fun R' U hR hXR hU => ⟨z, rest, rfl, ?_, hres R' U hR hXR hU⟩⟩
      cases hz with | p _ _ hp => exact (dec_rep hx' hp).ext hR (fun _ _ => rfl)
    · next s slot off len =>
      split at hx
      · next s' es hob =>
        split at hx
        · next hcond =>
          obtain ⟨rfl, hle, hused⟩ := hcond
          cases hx
          have hnot : slot ∉ used := by simpa using hused
          have hob' := hget_some hob
          refine ⟨X, slot :: Y, fun s hs => fun hu => hX s hs (List.mem_cons_of_mem _ hu), fun s' hs' => ?_, fun s' hs' hm => ?_, hXs, fun R' U hR hXR hU => ?_⟩
          · rcases List.mem_cons.1 hs' with rfl | hs'
            · exact ⟨hnot, by rw [hob']; rfl⟩
            · exact ⟨fun hu => (hY s' hs').1 (List.mem_cons_of_mem _ hu), (hY s' hs').2⟩
          · rcases List.mem_cons.1 hm with rfl | hm
            · exact hX s' hs' (List.mem_cons_self ..)
            · exact hXY s' hs' hm
          · cases hz with
            | ownDead _ _ _ _ hd => rw [hob'] at hd; cases hd
            | own _ _ _ cap A s0 g1 g2 g3 g4 =>
              rw [hob'] at g1; simp only [Ob.stride, Option.some.injEq] at g1; subst g1
              have hlen : ((es.drop off).take len).length = len := by simp; omega
              refine ⟨_, rest, rfl, A, cap, by rw [hlen], by rw [hlen]; exact g2, g3, ?_⟩
              by_cases h0 : cap = 0
              · exact .inl ⟨h0, hres R' U hR hXR fun b hb s' hs' => hU b hb s' (List.mem_cons_of_mem _ hs')⟩
              · rcases g4 with g4 | ⟨b, o, k1, k2, c0, t0, fr0, k3, k4⟩
                · exact absurd g4 h0
                · have hobr := hH.obs slot
                  rw [hob'] at hobr
                  rcases hobr with ⟨h1, _⟩ | ⟨b', o', c, ty, fr, h1, h2, h3, h4, h5, h6, h7⟩
                  · rw [k1] at h1; cases h1
                  · rw [k1] at h1; cases h1
                    rw [h2] at k3; cases k3
                    refine .inr ⟨b, o + off * s, c0, t0, fr0, k2, fun hUb => hU b hUb slot (List.mem_cons_self ..) o k1, h2, h3, by rw [Nat.add_mul] at k4; omega, fun i e he => ?_, ?_⟩
                    · have he : ((es.drop off).take len)[i]? = some e := he
                      rw [List.getElem?_take] at he
                      split at he
                      · rw [List.getElem?_drop] at he
                        obtain ⟨q1, q2⟩ := h7 _ e he
                        refine ⟨q1, fun j x hj => ?_⟩
                        obtain ⟨y, hy, hr⟩ := q2 j x hj
                        refine ⟨y, ?_, hr.ext hR (fun _ _ => rfl)⟩
                        have : o + off * s + i * s + j = o + (off + i) * s + j := by rw [Nat.add_mul]; omega
                        rw [this]; exact hy
                      · cases he
                    · refine hres R' _ hR hXR fun b' hb' s' hs' o' hk' => ?_
                      rcases hb' with hb' | rfl
                      · exact hU b' hb' s' (List.mem_cons_of_mem _ hs') o' hk'
                      · have := hH.inj s' slot b' o' o (hY s' hs').2 (by rw [hob']; rfl) hk' k1
                        subst this
                        exact (hY s' hs').1 (List.mem_cons_self ..)
        · cases hx
      · cases hx
    · cases hx
      refine ⟨X, Y, hX, hY, hXY, hXs, fun R' U hR hXR hU => ?_⟩
      cases hz with
      | p _ _ hp =>
        cases hp with
        | v _ _ => exact ⟨_, rest, rfl, none, 0, rfl, Nat.le_refl _, fun _ => rfl, .inl ⟨rfl, hres R' U hR hXR hU⟩⟩
    · next s slot off len =>
      split at hx
      · next s' fz es hob =>
        split at hx
        · next hcond =>
          obtain ⟨rfl, hle, hused⟩ := hcond
          cases hx
          have hnot : slot ∉ used := by simpa using hused
          have hob' := hget_some hob
          refine ⟨slot :: X, Y, fun s' hs' => ?_, fun s' hs' => ⟨fun hu => (hY s' hs').1 (List.mem_cons_of_mem _ hu), (hY s' hs').2⟩, fun s' hs' hm => ?_, fun s' hs' => ?_, fun R' U hR hXR hU => ?_⟩
          · rcases List.mem_cons.1 hs' with rfl | hs'
            · exact hnot
            · exact fun hu => hX s' hs' (List.mem_cons_of_mem _ hu)
          · rcases List.mem_cons.1 hs' with rfl | hs'
            · exact (hY s' hm).1 (List.mem_cons_self ..)
            · exact hXY s' hs' hm
          · rcases List.mem_cons.1 hs' with rfl | hs'
            · rw [hob']; simp [Ob.stride]
            · exact hXs s' hs'
          · refine ⟨z, rest, rfl, ?_, hres R' U hR (fun s' hs' => hXR s' (List.mem_cons_of_mem _ hs')) hU⟩
            exact own_sl hH hob' hz hle hR (fun b o hk => hXR slot (List.mem_cons_self ..) b o hk)
        · cases hx
      · cases hx
    · cases hx
end Go.Ev

namespace Go.Ev
open Go
variable {G : Nat → Option (List PC)}

/-- The values of results, and their cells. -/
def Grouped (P : Program) : List TypeId → List Value → List Value → Prop
  | [], zs, vs => zs = [] ∧ vs = []
  | t :: ts, zs, vs => ∃ (n : Nat) (agg : Bool) (rest : List Value), szOf P t = some n ∧ aggT P t = some agg ∧ n ≤ zs.length ∧ vs = valOf agg (zs.take n) :: rest ∧ (agg = false → n = 1) ∧ Grouped P ts (zs.drop n) rest

def oneOf (vs : List Value) : Value := match vs with | [x] => x | l => .tuple l.toArray

/-- Values, one after the other. -/
def SReps (κ : Kap) (R : Nat → Prop) (h : Nat → Ob) (w : World) (xs : List SV) (ys : List Value) : Prop :=
  xs.length = ys.length ∧ ∀ (i : Nat) (x : SV) (y : Value), xs[i]? = some x → ys[i]? = some y → SRep κ R h w x y

section
variable {κ : Kap} {R : Nat → Prop} {h : Nat → Ob} {w : World}

theorem SReps.nil : SReps κ R h w [] [] := ⟨rfl, fun i x y hx => by simp at hx⟩
theorem SReps.cons {x : SV} {xs : List SV} {y : Value} {ys : List Value} (h1 : SRep κ R h w x y) (h2 : SReps κ R h w xs ys) : SReps κ R h w (x :: xs) (y :: ys) := by
  refine ⟨by simp [h2.1], fun i a b ha hb => ?_⟩
  cases i with
  | zero => cases ha; cases hb; exact h1
  | succ i => exact h2.2 i a b (by simpa using ha) (by simpa using hb)
theorem SReps.uncons {x : SV} {xs : List SV} {ys : List Value} (hr : SReps κ R h w (x :: xs) ys) : ∃ y rest, ys = y :: rest ∧ SRep κ R h w x y ∧ SReps κ R h w xs rest := by
  match ys, hr.1 with
  | y :: rest, hl => exact ⟨y, rest, rfl, hr.2 0 x y rfl rfl, by simpa using hl, fun i a b h1 h2 => hr.2 (i + 1) a b (by simpa using h1) (by simpa using h2)⟩

theorem resVal_rep {xs : List SV} {vs : List Value} (hr : SReps κ R h w xs vs) : VRep κ R h w (resVal xs) (oneOf vs) := by
  match xs, vs, hr with
  | [x], [y], hr => exact hr.2 0 x y rfl rfl
  | [], vs, hr => match vs, hr.1 with | [], _ => exact ⟨[], rfl, rfl, hr.2⟩
  | x :: x' :: xs, [], hr => exact absurd hr.1 (by simp)
  | x :: x' :: xs, [y], hr => exact absurd hr.1 (by simp)
  | x :: x' :: xs, y :: y' :: ys, hr => exact ⟨_, rfl, hr.1, hr.2⟩

/-- A value of its type's form. -/
theorem fits_rep {P : Program} {t : TypeId} {x : SV} {v : Value} (hf : x.fits P t = true) (hr : SRep κ R h w x v) :
    ∃ (n : Nat) (agg : Bool), szOf P t = some n ∧ aggT P t = some agg ∧ v.cells.toList.length = n ∧ v = valOf agg v.cells.toList ∧ (agg = false → n = 1) := by
  unfold SV.fits at hf
  split at hf
  · next n cs h1 h2 =>
    obtain ⟨ys, rfl, hys⟩ := hr
    exact ⟨n, true, h1, h2, by simp only [Value.cells]; rw [← hys.1]; simpa using hf, by simp [Value.cells, valOf], fun e => by cases e⟩
  · next n cs h1 h2 =>
    obtain ⟨ys, rfl, hys⟩ := hr
    exact ⟨n, true, h1, h2, by simp only [Value.cells]; rw [← hys.1]; simpa using hf, by simp [Value.cells, valOf], fun e => by cases e⟩
  · next n c h1 h2 =>
    have hr : CRep κ R h w c v := hr
    have := cells_one hr.oneCell
    have hn : n = 1 := by simpa using hf
    exact ⟨n, false, h1, h2, by rw [this, hn]; rfl, by rw [this]; rfl, fun _ => hn⟩
  · cases hf
end

theorem run_loadVar_of {P : Program} {t : TypeId} {x y : Value} {w : World} (h : (Instr.loadAt t x).run P w = .ok y w) :
    (do loadVar t (← asAddr x) : Sem Value).run P w = .ok y w := by
  unfold Instr.loadAt at h
  rw [Sem.run_bind] at h ⊢
  cases x with
  | pointer a =>
    cases a with
    | some a => exact h
    | none => simp [Instr.sureAddr] at h
  | _ => simp [Instr.sureAddr] at h

/-- How a result is read. -/
def resRead (a : Act) : ResultVar → Sem Value := fun
  | .tmp t => pure (a.tmps.getD t undef)
  | .cell x t => do loadVar t (← asAddr (a.tmps.getD x undef))

theorem run_results {P : Program} {fn : Func} {a : Act} {w : World} {vs : List Value} (h : (fn.results.toList.mapM (resRead a)).run P w = .ok vs w) : (results fn a.tmps).run P w = .ok (oneOf vs) w := by
  unfold results
  rw [Sem.run_bind, arr_mapM]
  have : (fn.results.toList.mapM (fun
    | .tmp t => pure (a.tmps.getD t undef)
    | .cell x t => do loadVar t (← asAddr (a.tmps.getD x undef)) : ResultVar → Sem Value)).run P w = .ok vs w := h
  erw [this]
  simp only [Result.andThen_ok, Sem.run_pure]
  match vs with
  | [] => rfl
  | [x] => rfl
  | x :: y :: l => simp [oneOf]

theorem resVals_rep {ρ : Type} {E : Env} {st : St} : ∀ (rs : List ResultVar) (tys : List TypeId) (K : List SV → Option ρ) (r : ρ), resVals E st rs tys K = some r →
    ∃ xs, K xs = some r ∧ ∀ (κ : Kap) (R : Nat → Prop) (a : Act) (w : World), Rel E.G κ R st.tmps.length (tget st.tmps) (hget st.heap) a w →
      ∃ vs zs : List Value, (rs.mapM (resRead a)).run E.P w = .ok vs w ∧ SReps κ R (hget st.heap) w xs vs ∧ Grouped E.P tys zs vs ∧ ∀ cs, cellsAll xs = some cs → CReps κ R (hget st.heap) w cs zs
  | [], [], K, r, h => ⟨[], h, fun κ R a w hrel => ⟨[], [], rfl, .nil, ⟨rfl, rfl⟩, fun cs hcs => by simp [cellsAll] at hcs; subst hcs; exact ⟨rfl, fun i c y hc => by simp at hc⟩⟩⟩
  | [], _ :: _, _, _, h => by simp [resVals] at h
  | .tmp _ :: _, [], _, _, h => by simp [resVals] at h
  | .cell _ _ :: _, [], _, _, h => by simp [resVals] at h
  | rv :: rs, ty :: tys, K, r, h => by
    have key : ∃ x, x.fits E.P ty = true ∧ (resVals E st rs tys fun l => K (x :: l)) = some r ∧
        ∀ (κ : Kap) (R : Nat → Prop) (a : Act) (w : World), Rel E.G κ R st.tmps.length (tget st.tmps) (hget st.heap) a w → ∃ v, (resRead a rv).run E.P w = .ok v w ∧ SRep κ R (hget st.heap) w x v := by
      cases rv with
      | tmp t =>
        simp only [resVals, Option.bind_eq_some_iff] at h
        obtain ⟨v, hv, x, hx, h⟩ := h
        split at h
        · next hf =>
          refine ⟨x, hf, h, fun κ R a w hrel => ⟨a.tmps.getD t undef, rfl, ?_⟩⟩
          have := operand_rep hrel (x := .tmp t) hv (fun _ _ => rfl)
          cases v with
          | s y => cases hx; exact this
          | tup l => cases hx
          | g _ _ _ => cases hx
        · cases h
      | cell x t =>
        simp only [resVals, Option.bind_eq_some_iff] at h
        obtain ⟨v, hv, h⟩ := h
        split at h
        · next c =>
          obtain ⟨x', rd, hK, hrun⟩ := loadAt_rep h
          split at hK
          · next hf =>
            refine ⟨x', hf, hK, fun κ R a w hrel => ?_⟩
            have hc := operand_rep hrel (x := .tmp x) hv (fun _ _ => rfl)
            obtain ⟨y, hy, hs⟩ := hrun (hget st.heap) κ R w _ (fun _ _ => rfl) hrel.heap hc
            exact ⟨y, run_loadVar_of hy, hs⟩
          · cases hK
        · cases h
    obtain ⟨x, hf, h', hone⟩ := key
    obtain ⟨xs, hK, hrest⟩ := resVals_rep rs tys _ r h'
    refine ⟨x :: xs, hK, fun κ R a w hrel => ?_⟩
    obtain ⟨v, hv, hs⟩ := hone κ R a w hrel
    obtain ⟨vs, zs, h1, h2, h3, h4⟩ := hrest κ R a w hrel
    obtain ⟨n, agg, f1, f2, f3, f4, f5⟩ := fits_rep hf hs
    refine ⟨v :: vs, v.cells.toList ++ zs, ?_, .cons hs h2, ⟨n, agg, vs, f1, f2, by simp only [List.length_append, f3]; omega, ?_, f5, ?_⟩, fun cs hcs => ?_⟩
    · simp only [List.mapM_cons, Sem.run_bind, hv, Result.andThen_ok, h1, Sem.run_pure]
    · rw [List.take_append_of_le_length (by omega), List.take_of_length_le (by omega), ← f4]
    · rw [List.drop_append_of_le_length (by omega), List.drop_of_length_le (by omega)]; exact h3
    · simp only [cellsAll, List.mapM_cons, bind, Option.map_eq_some_iff, Option.bind_eq_some_iff, pure, Option.some.injEq] at hcs
      obtain ⟨l, ⟨c1, hc1, l', hl', rfl⟩, rfl⟩ := hcs
      simp only [List.flatten_cons]
      exact (hs.cells hc1).append (h4 _ (by simp [cellsAll, hl']))

/-- How the machine leaves. -/
def X.conc : X → Exit
  | .normal => .normal
  | .exit id => .exit id
  | .ret => .ret

/-- What a piece of code leaves. -/
def CodePost (E : Env) (st st' : St) (e : X) (κ : Kap) (R : Nat → Prop) (w : World) : Exit → Act → World → Prop := fun e' a' w' =>
  e' = e.conc ∧ ∃ (κ' : Kap) (R' : Nat → Prop), Rel E.G κ' R' st.tmps.length (tget st'.tmps) (hget st'.heap) a' w' ∧ Fr κ R (hget st.heap) w κ' R' (hget st'.heap) w'

/-- A loop, from a round's start. -/
def LoopWp (P : Program) (c : Code) (Q : Exit → Act → World → Prop) (a : Act) (w : World) : Prop :=
  ∀ (b : Frame) (k : List Item) (cs : List Frame), ∃ e a' w', Q e a' w' ∧ Arrives P (lone (b.at a (.code c :: .inLoop c :: k)) cs w) b k cs e a' w'

def Wp (P : Program) (c : Code) (Q : Exit → Act → World → Prop) (a : Act) (w : World) : Prop := match c with
  | .loop b => LoopWp P b Q a w
  | c => c.wp P Q a w

theorem Wp.wp {P : Program} {c : Code} {Q : Exit → Act → World → Prop} {a : Act} {w : World} (h : Wp P c Q a w) : c.wp P Q a w := by
  cases c with
  | loop c => exact fun b k cs => let ⟨e, a', w', hq, harr⟩ := h b k cs; ⟨e, a', w', hq, .of_steps (.one step_loop) harr⟩
  | _ => exact h

theorem loop_round {P : Program} {c : Code} {Q : Exit → Act → World → Prop} {a : Act} {w : World} (h : c.wp P (Exit.then (LoopWp P c Q) Q) a w) : LoopWp P c Q a w := by
  intro b k cs
  obtain ⟨e, a₁, w₁, hq, harr⟩ := h b (.inLoop c :: k) cs
  cases e with
  | normal =>
    obtain ⟨e₂, a₂, w₂, hq₂, harr₂⟩ := hq b k cs
    exact ⟨e₂, a₂, w₂, hq₂, .of_steps (Steps.trans harr (.one step_inLoop)) harr₂⟩
  | exit id => exact ⟨_, a₁, w₁, hq, .pass (x := .inLoop c) rfl (fun _ _ => .inl (by simp)) harr⟩
  | goto l => exact ⟨_, a₁, w₁, hq, .pass (x := .inLoop c) rfl (fun _ _ => .inl (by simp)) harr⟩
  | ret => exact ⟨_, a₁, w₁, hq, .pass (x := .inLoop c) rfl (fun _ _ => .inl (by simp)) harr⟩
  | panic ch => exact ⟨_, a₁, w₁, hq, .pass (x := .inLoop c) rfl (fun _ _ => .inl (by simp)) harr⟩
  | outgrown => exact ⟨_, a₁, w₁, hq, .pass (x := .inLoop c) rfl (fun _ _ => .inl (by simp)) harr⟩

def CodeOK (E : Env) {ρ : Type} (c : Code) (st : St) (K : X → St → Option ρ) (r : ρ) : Prop :=
  ∃ (e : X) (st' : St), K e st' = some r ∧ st'.tmps.length = st.tmps.length ∧ ∀ (κ : Kap) (R : Nat → Prop) (a : Act) (w : World), Rel E.G κ R st.tmps.length (tget st.tmps) (hget st.heap) a w →
    Wp E.P c (CodePost E st st' e κ R w) a w

def void : Nat → Ob := fun _ => .void
def nowhere : Kap := fun _ => none

/-- What a call of f comes to. -/
def FnOK (E : Env) (f : FuncId) (args : List SV) (r : RTup (rks E f)) : Prop :=
  ∀ (R : Nat → Prop) (w : World) (ys : List Value), (∀ b, R b → b < w.heap.size) → GRep E.G R w → SReps nowhere R void w args ys →
    Calls E.P f ys.toArray w fun
      | .returned v, w' => ∃ (R' : Nat → Prop) (zs vs : List Value) (fn : Func), E.P.funcs[f]? = some fn ∧ (∀ b, R b → R' b) ∧ (∀ b, R' b → R b ∨ w.heap.size ≤ b) ∧ (∀ b, R' b → b < w'.heap.size) ∧
          (∀ b, b < w.heap.size → w'.heap[b]? = w.heap[b]?) ∧ w'.os = w.os ∧ w'.tape = w.tape ∧ w'.output = w.output ∧ w.heap.size ≤ w'.heap.size ∧
          ResRep R' w' (fun b => b < w.heap.size ∨ R' b) (rks E f) r zs ∧ Grouped E.P fn.resultTypes.toList zs vs ∧ v = oneOf vs
      | _, _ => False

theorem hget_nil : hget [] = void := by funext i; simp [hget, void]

theorem void_rep {R : Nat → Prop} {w : World} (h1 : ∀ b, R b → b < w.heap.size) (h2 : GRep G R w) : HRep G nowhere R void w :=
  ⟨fun _ => trivial, fun i j b o o' hi => by simp [void, Ob.live] at hi, h1, h2⟩

/-- A frame at its start. -/
theorem init_rel {fn : Func} {args : List SV} {H : List Ob} {κ : Kap} {R : Nat → Prop} {w : World} {ys : List Value} (hH : HRep G κ R (hget H) w) (hs : SReps κ R (hget H) w args ys) :
    Rel G κ R (initSt fn args H).tmps.length (tget (initSt fn args H).tmps) (hget (initSt fn args H).heap) { tmps := ys.toArray ++ Array.replicate (fn.ntmps - ys.toArray.size) undef, defers := [] } w := by
  refine ⟨rfl, by simp [initSt, hs.1], fun i y hy => ?_, hH⟩
  simp only [initSt, tget]
  by_cases hi : i < ys.length
  · rw [Array.getElem?_append_left (by simpa using hi)] at hy
    rw [List.getElem?_append_left (by simpa [hs.1] using hi), List.getElem?_map]
    have hy : ys[i]? = some y := by simpa using hy
    have hlt : i < args.length := by rw [hs.1]; exact hi
    rw [List.getElem?_eq_getElem hlt]
    exact hs.2 i _ y (List.getElem?_eq_getElem hlt) hy
  · rw [List.getElem?_append_right (by simp [hs.1]; omega)]
    cases hx : (List.replicate (fn.ntmps - args.length) (AV.s .dead))[i - (args.map AV.s).length]? with
    | none => trivial
    | some x => have := List.mem_of_getElem? hx; simp at this; rw [this.2]; trivial

/-- What a body leaves is what a call comes to. -/
theorem fn_of_code {E : Env} {f : FuncId} {fn : Func} {c : Code} {args : List SV} {r : RTup (rks E f)} (hf : E.P.funcs[f]? = some fn) (hb : fn.body = some c)
    (hc : CodeOK E c (initSt fn args []) (fun e st => match e with
        | .exit _ => none
        | _ => resVals E st fn.results.toList fn.resultTypes.toList fun vs => (cellsAll vs).bind fun cs => outCs st.heap [] (rks E f) cs) r) : FnOK E f args r := by
  intro R w ys hR hG hs
  obtain ⟨e, st', hK, hlen, hwp⟩ := hc
  refine calls_of_wp hf hb (wp_mono (hwp nowhere R _ w (init_rel (by rw [hget_nil]; exact void_rep hR hG) (by rw [hget_nil]; exact hs))).wp ?_)
  rintro e' a' w' ⟨rfl, κ', R', hrel, hfr⟩
  have key : ∀ (hK : (resVals E st' fn.results.toList fn.resultTypes.toList fun vs => (cellsAll vs).bind fun cs => outCs st'.heap [] (rks E f) cs) = some r), a'.defers = [] ∧ ∃ v, (results fn a'.tmps).run E.P w' = .ok v w' ∧
      (∃ (R' : Nat → Prop) (zs vs : List Value) (fn : Func), E.P.funcs[f]? = some fn ∧ (∀ b, R b → R' b) ∧ (∀ b, R' b → R b ∨ w.heap.size ≤ b) ∧ (∀ b, R' b → b < w'.heap.size) ∧
          (∀ b, b < w.heap.size → w'.heap[b]? = w.heap[b]?) ∧ w'.os = w.os ∧ w'.tape = w.tape ∧ w'.output = w.output ∧ w.heap.size ≤ w'.heap.size ∧
          ResRep R' w' (fun b => b < w.heap.size ∨ R' b) (rks E f) r zs ∧ Grouped E.P fn.resultTypes.toList zs vs ∧ v = oneOf vs) := by
    intro hK
    obtain ⟨xs, hx, hrun⟩ := resVals_rep _ _ _ _ hK
    simp only [Option.bind_eq_some_iff] at hx
    obtain ⟨cs, hcs, hout⟩ := hx
    rw [← hlen] at hrel
    obtain ⟨vs, zs, h1, h2, h3, h4⟩ := hrun κ' R' a' w' hrel
    obtain ⟨X, Y, hX, hY, hXY, hXs, hres⟩ := outCs_rep hrel.heap (rks E f) [] cs r zs hout (h4 cs hcs)
    have hvoid : ∀ s, ((hget (initSt fn args []).heap) s).live = true → False := fun s hl => by simp [initSt, hget, Ob.live] at hl
    refine ⟨hrel.defers, _, run_results h1, fun b => R' b ∨ ∃ s ∈ X, ∃ o, κ' s = some (b, o), zs, vs, fn, hf, fun b hb => .inl (hfr.ext.r b hb), fun b hb => ?_, fun b hb => ?_, fun b hb => hfr.keep b hb (fun s o hl => (hvoid s hl).elim), hfr.os, hfr.tape, hfr.output, hfr.grow, ?_, h3, rfl⟩
    · rcases hb with hb | ⟨s, hs, o, hk⟩
      · rcases hfr.newR b hb with h0 | h0 | ⟨s', o', hl, _⟩
        · exact .inl h0
        · exact .inr h0
        · exact (hvoid s' hl).elim
      · by_cases hl : (hget st'.heap s).live = true
        · rcases hfr.new s b o hl hk with h0 | ⟨s', o', hl', _⟩
          · exact .inr h0
          · exact (hvoid s' hl').elim
        · rcases hfr.newR b ((hrel.heap.obs s).inR (hXs s hs) hl hk) with h0 | h0 | ⟨s', o', hl, _⟩
          · exact .inl h0
          · exact .inr h0
          · exact (hvoid s' hl).elim
    · rcases hb with hb | ⟨s, hs, o, hk⟩
      · exact hrel.heap.old b hb
      · exact (hrel.heap.obs s).block (hXs s hs) hk
    · refine hres _ _ (fun b hb => .inl hb) (fun s hs b o hk => .inr ⟨s, hs, o, hk⟩) (fun b hb s hs o hk => ?_)
      have hl := (hY s hs).2
      rcases hb with hb | hb | ⟨s', hs', o', hk'⟩
      · rcases hfr.new s b o hl hk with h0 | ⟨s', o', hl', _⟩
        · omega
        · exact hvoid s' hl'
      · exact (hrel.heap.obs s).notR hl hk hb
      · by_cases hl' : (hget st'.heap s').live = true
        · have := hrel.heap.inj s' s b o' o hl' hl hk' hk
          subst this
          exact hXY s' hs' hs
        · exact (hrel.heap.obs s).notR hl hk ((hrel.heap.obs s').inR (hXs s' hs') hl' hk')
  cases e with
  | normal => exact key hK
  | ret => exact key hK
  | exit id => cases hK
end Go.Ev

namespace Go.Ev
open Go
variable {G : Nat → Option (List PC)}

theorem mapM_some {α β : Type} {f : α → Option β} : ∀ {l : List α} {r : List β}, l.mapM f = some r → l.length = r.length ∧ ∀ (i : Nat) (x : α) (y : β), l[i]? = some x → r[i]? = some y → f x = some y
  | [], r, h => by simp at h; subst h; exact ⟨rfl, fun i x y hx => by simp at hx⟩
  | a :: l, r, h => by
    simp only [List.mapM_cons, bind, Option.bind_eq_some_iff, pure, Option.some.injEq] at h
    obtain ⟨b, hb, r', hr', rfl⟩ := h
    obtain ⟨h1, h2⟩ := mapM_some hr'
    refine ⟨by simp [h1], fun i x y hx hy => ?_⟩
    cases i with
    | zero => cases hx; cases hy; exact hb
    | succ i => exact h2 i x y (by simpa using hx) (by simpa using hy)

section
variable {κ : Kap} {R Rc : Nat → Prop} {h' : Nat → Ob} {w : World} {H : List Ob}

theorem expC_rep (hH : HRep G κ R h' w) (hR : ∀ b, R b → Rc b) : ∀ (n : Nat) (c : C) (x : PC) (rd : List Reg) (y : Value), expC n H c = some (x, rd) → (∀ q ∈ rd, q.getF h' = q.getF (hget H)) →
    (∀ slot, Reg.obj slot ∈ rd → (h' slot).stride ≠ none → ∀ b o, κ slot = some (b, o) → Rc b) → CRep κ R h' w c y → PRep Rc w x y := by
  intro n
  induction n with
  | zero =>
    intro c x rd y h hrd hRc hc
    unfold expC at h
    split at h
    · cases h; cases hc with | p _ _ hp => exact hp.ext hR (fun _ _ => rfl)
    · cases h
    · next hh => cases hh
    · cases h
  | succ n ih =>
    intro c x rd y h hrd hRc hc
    unfold expC at h
    split at h
    · cases h; cases hc with | p _ _ hp => exact hp.ext hR (fun _ _ => rfl)
    · cases h
    · next n' slot off len hn =>
      cases hn
      split at h
      · next s fz es hob =>
        split at h
        · next hle =>
          cases h
          exact own_sl hH (regs_ob hob (hrd _ (by simp))) hc hle hR (fun b o hk => hRc slot (by simp) (by rw [regs_ob hob (hrd _ (by simp))]; simp [Ob.stride]) b o hk)
        · cases h
      · next s cs hob =>
        split at h
        · next hle =>
          simp only [Option.bind_eq_some_iff] at h
          obtain ⟨l, hl, h⟩ := h
          cases h
          have hob' := regs_ob hob (hrd (.obj slot) (by simp))
          obtain ⟨hlen, hall⟩ := mapM_some hl
          have hlen2 : ((cs.drop (off * s)).take (len * s)).length = len * s := by simp; rw [Nat.add_mul] at hle; omega
          have hl2 : (l.map (·.1)).length = len * s := by simp [← hlen, hlen2]
          obtain ⟨e1, e2, e3⟩ := chunk_get (s := s) len (l.map (·.1)) hl2
          cases hc with
          | ownDead _ _ _ _ hd => rw [hob'] at hd; cases hd
          | own _ _ _ cap A s0 g1 g2 g3 g4 =>
            rw [hob'] at g1; simp only [Ob.stride, Option.some.injEq] at g1; subst g1
            by_cases h0 : len = 0
            · subst h0
              exact .sl s false [] A 0 cap (fun _ _ => undef) 0 0 rfl g2 (fun e => by cases e) g3 (fun e => absurd rfl e) (fun i e he => by simp at he) (fun i e j c he => by simp at he)
            · rcases g4 with g4 | ⟨b, o, k1, k2, k3⟩
              · omega
              · have hobr := hH.obs slot
                rw [hob'] at hobr
                obtain ⟨b', o', c, t, fr, h1, h2, h3, h4, h5, h6⟩ := hobr
                rw [k1] at h1; cases h1
                have hb : Rc b := hRc slot (by simp) (by rw [hob']; simp [Ob.stride]) b o k1
                have hcell : ∀ (i : Nat) (e : List PC) (j : Nat) (x : PC), (chunk s len (l.map (·.1)))[i]? = some e → e[j]? = some x → ∃ y, c[o + off * s + i * s + j]? = some y ∧ PRep Rc w x y := by
                  intro i e j x he hj
                  have hg := flat_get e1 he hj
                  rw [e2, List.getElem?_map] at hg
                  cases hgl : l[i * s + j]? with
                  | none => rw [hgl] at hg; cases hg
                  | some p =>
                    rw [hgl] at hg; cases hg
                    have hlt : i * s + j < ((cs.drop (off * s)).take (len * s)).length := by rw [hlen]; exact (List.getElem?_eq_some_iff.1 hgl).1
                    have hcc := List.getElem?_eq_getElem hlt
                    have hexp := hall _ _ _ hcc hgl
                    have hcs : cs[off * s + (i * s + j)]? = some (((cs.drop (off * s)).take (len * s))[i * s + j]) := by
                      rw [← hcc, List.getElem?_take, if_pos (by rw [← hlen2]; exact hlt), List.getElem?_drop]
                    obtain ⟨y, hy, hr⟩ := h6 _ _ hcs
                    have hmem : ∀ q ∈ p.2, q ∈ (Reg.obj slot :: (l.map (·.2)).flatten) := fun q hq => List.mem_cons_of_mem _ (List.mem_flatten.2 ⟨p.2, List.mem_map.2 ⟨p, List.mem_of_getElem? hgl, rfl⟩, hq⟩)
                    refine ⟨y, ?_, ih _ p.1 p.2 y hexp (fun q hq => hrd q (hmem q hq)) (fun s' hs' => hRc s' (hmem _ hs')) hr⟩
                    have : o + off * s + i * s + j = o + (off * s + (i * s + j)) := by omega
                    rw [this]; exact hy
                refine .sl s false _ A len cap (fun i j => (c[o + off * s + i * s + j]?).getD undef) b (o + off * s) e3.symm g2 (fun e => by cases e) g3 (fun _ => ⟨k2, hb⟩) (fun i e he => ⟨e1 e (List.mem_of_getElem? he), fun j hj => ?_⟩) (fun i e j x he hj => ?_)
                · have hje : j < e.length := by rw [e1 e (List.mem_of_getElem? he)]; exact hj
                  obtain ⟨y, hy, _⟩ := hcell i e j e[j] he (List.getElem?_eq_getElem hje)
                  rw [cell_of_cells h2, hy]; rfl
                · obtain ⟨y, hy, hr⟩ := hcell i e j x he hj
                  rw [hy]; exact hr
        · cases h
      · cases h
    · cases h

theorem expCs_rep (hH : HRep G κ R h' w) (hR : ∀ b, R b → Rc b) : ∀ (cs : List C) (l : List PC) (rd : List Reg) (ys : List Value), expCs H cs = some (l, rd) → (∀ q ∈ rd, q.getF h' = q.getF (hget H)) →
    (∀ slot, Reg.obj slot ∈ rd → (h' slot).stride ≠ none → ∀ b o, κ slot = some (b, o) → Rc b) → CReps κ R h' w cs ys → PReps Rc w l ys
  | [], l, rd, ys, h, _, _, hc => by
    simp only [expCs, Option.some.injEq, Prod.mk.injEq] at h
    obtain ⟨rfl, rfl⟩ := h
    exact ⟨hc.1, fun i c y hx => by simp at hx⟩
  | c :: cs, l, rd, ys, h, hrd, hRc, hc => by
    simp only [expCs, Option.bind_eq_some_iff] at h
    obtain ⟨x, hx, r, hr, h⟩ := h
    cases h
    obtain ⟨y, rest, rfl, h1, h2⟩ := hc.cons
    have p1 := expC_rep hH hR 3 c x.1 x.2 y hx (fun q hq => hrd q (List.mem_append_left _ hq)) (fun s hs => hRc s (List.mem_append_left _ hs)) h1
    have p2 := expCs_rep hH hR cs r.1 r.2 rest hr (fun q hq => hrd q (List.mem_append_right _ hq)) (fun s hs => hRc s (List.mem_append_right _ hs)) h2
    refine ⟨by simp [p2.1], fun i a b ha hb => ?_⟩
    cases i with
    | zero => cases ha; cases hb; exact p1
    | succ i => exact p2.2 i a b (by simpa using ha) (by simpa using hb)

theorem expSV_rep (hH : HRep G κ R h' w) (hR : ∀ b, R b → Rc b) {peek : Bool} {x x' : SV} {rd : List Reg} {y : Value} (h : expSV peek H x = some (x', rd)) (hrd : ∀ q ∈ rd, q.getF h' = q.getF (hget H))
    (hRc : ∀ slot, Reg.obj slot ∈ rd → (h' slot).stride ≠ none → ∀ b o, κ slot = some (b, o) → Rc b) (hc : SRep κ R h' w x y) : SRep nowhere Rc void w x' y := by
  unfold expSV at h
  split at h
  · cases h
  · next slot off =>
    split at h
    · split at h
      · next s cs hob =>
        simp only [Option.bind_eq_some_iff] at h
        obtain ⟨l, hl, h⟩ := h
        cases h
        have hob' := regs_ob hob (hrd (.obj slot) (by simp))
        have hcs := pcs_rep hl
        have hc : CRep κ R h' w (.bp slot off) y := hc
        cases hc with
        | bpDead _ _ _ hd => rw [hob'] at hd; cases hd
        | bp _ _ b o s' g1 g2 =>
          have hobr := hH.obs slot
          rw [hob'] at hobr
          obtain ⟨b', o', c, t, fr, h1, h2, h3, h4, h5, h6⟩ := hobr
          rw [g2] at h1; cases h1
          have hj : ∀ (j : Nat) (x : PC), l[j]? = some x → ∃ z, c[o + j]? = some z ∧ PRep Rc w x z := by
            intro j x hx
            obtain ⟨z, hz, hr⟩ := h6 j (.p x) (by rw [hcs]; simp [hx])
            cases hr with | p _ _ hp => exact ⟨z, hz, hp.ext hR (fun _ _ => rfl)⟩
          refine CRep.rp l off b o (fun j => (c[o + j]?).getD undef) (hRc slot (by simp) (by rw [hob']; simp [Ob.stride]) b o g2) (fun j x hx => ?_) (fun j x hx => ?_)
          · obtain ⟨z, hz, _⟩ := hj j x hx
            rw [cell_of_cells h2, hz]; rfl
          · obtain ⟨z, hz, hr⟩ := hj j x hx
            rw [hz]; exact hr
      · cases h
    · cases h
  · next f cs =>
    split at h
    · next he =>
      cases h
      have hc : CRep κ R h' w (.clo f cs) y := hc
      have : cs = [] := by simpa using he
      subst this
      cases hc with
      | clo _ _ vs hl _ =>
        have : vs = [] := List.length_eq_zero_iff.1 hl.symm
        subst this
        exact CRep.clo f [] [] rfl (fun i c v hx => by simp at hx)
    · cases h
  · next c _ _ =>
    simp only [Option.bind_eq_some_iff] at h
    obtain ⟨p, hp, h⟩ := h
    cases h
    exact CRep.p _ _ (expC_rep hH hR 3 c p.1 p.2 y hp hrd hRc hc)
  · next l =>
    cases h
    obtain ⟨ys, rfl, hys⟩ := hc
    exact ⟨ys, rfl, hys.ext hR (fun _ _ => rfl)⟩
  · next cs =>
    simp only [Option.bind_eq_some_iff] at h
    obtain ⟨p, hp, h⟩ := h
    cases h
    obtain ⟨ys, rfl, hys⟩ := hc
    exact ⟨ys, rfl, expCs_rep hH hR cs p.1 p.2 ys hp hrd hRc hys⟩

theorem expSVs_rep (hH : HRep G κ R h' w) (hR : ∀ b, R b → Rc b) {peek : Bool} : ∀ (xs xs' : List SV) (rd : List Reg) (ys : List Value), expSVs peek H xs = some (xs', rd) → (∀ q ∈ rd, q.getF h' = q.getF (hget H)) →
    (∀ slot, Reg.obj slot ∈ rd → (h' slot).stride ≠ none → ∀ b o, κ slot = some (b, o) → Rc b) → SReps κ R h' w xs ys → SReps nowhere Rc void w xs' ys
  | [], xs', rd, ys, h, _, _, hc => by
    simp only [expSVs, Option.some.injEq, Prod.mk.injEq] at h
    obtain ⟨rfl, rfl⟩ := h
    exact ⟨hc.1, fun i c y hx => by simp at hx⟩
  | x :: xs, xs', rd, ys, h, hrd, hRc, hc => by
    simp only [expSVs, Option.bind_eq_some_iff] at h
    obtain ⟨z, hz, r, hr, h⟩ := h
    cases h
    obtain ⟨y, rest, rfl, h1, h2⟩ := hc.uncons
    exact .cons (expSV_rep hH hR hz (fun q hq => hrd q (List.mem_append_left _ hq)) (fun s hs => hRc s (List.mem_append_left _ hs)) h1)
      (expSVs_rep hH hR xs r.1 r.2 rest hr (fun q hq => hrd q (List.mem_append_right _ hq)) (fun s hs => hRc s (List.mem_append_right _ hs)) h2)
end

/-- Results are read under another set of blocks. -/
theorem flat_enc {R R2 : Nat → Prop} {w : World} {q : Kind} {x : q.T} {z : Value} (hf : RK.flat (.rd q) x = true) (h : PRep R w (q.enc x) z) : PRep R2 w (q.enc x) z := by
  cases q with
  | list s => simp [RK.flat] at hf
  | any =>
    have key : ∀ x : PC, RK.flat (.rd .any) x = true → PRep R w x z → PRep R2 w x z := by
      intro x hx hr
      cases x with
      | v v => cases hr with | v _ h1 => exact .v _ h1
      | sl _ _ _ => cases hx
    exact key x hf h
  | int k => cases h with | v _ h1 => exact .v _ h1
  | bool => cases h with | v _ h1 => exact .v _ h1
  | str => cases h with | v _ h1 => exact .v _ h1

theorem ResRep.weaken {R R2 : Nat → Prop} {w : World} : ∀ {ks : List RK} {t : RTup ks} {zs : List Value} {U : Nat → Prop}, ((∀ b, R b → R2 b) ∨ flatR ks t = true) → ResRep R w U ks t zs → ResRep R2 w U ks t zs
  | [], _, _, _, _, h => h
  | .rd q :: ks, t, zs, U, hor, h => by
    obtain ⟨z, rest, rfl, h1, h2⟩ := h
    refine ⟨z, rest, rfl, ?_, h2.weaken (hor.imp id fun e => ?_)⟩
    · rcases hor with hor | hor
      · exact h1.ext hor (fun _ _ => rfl)
      · simp only [flatR, Bool.and_eq_true] at hor
        exact flat_enc hor.1 h1
    · simp only [flatR, Bool.and_eq_true] at e
      exact e.2
  | .fr s :: ks, t, zs, U, hor, h => by
    obtain ⟨z, rest, rfl, A, cap, g1, g2, g3, g4⟩ := h
    have hor2 : (∀ b, R b → R2 b) ∨ flatR ks t.2 = true := hor.imp id fun e => by simp only [flatR, Bool.and_eq_true] at e; exact e.2
    refine ⟨z, rest, rfl, A, cap, g1, g2, g3, ?_⟩
    rcases g4 with ⟨g4, g5⟩ | ⟨b, o, c, ty, fr, k1, k2, k3, k4, k5, k6, k7⟩
    · exact .inl ⟨g4, g5.weaken hor2⟩
    · refine .inr ⟨b, o, c, ty, fr, k1, k2, k3, k4, k5, fun i e he => ⟨(k6 i e he).1, fun j x hx => ?_⟩, k7.weaken hor2⟩
      obtain ⟨y, hy, hr⟩ := (k6 i e he).2 j x hx
      refine ⟨y, hy, ?_⟩
      rcases hor with hor | hor
      · exact hr.ext hor (fun _ _ => rfl)
      · simp only [flatR, Bool.and_eq_true, RK.flat] at hor
        have h1 := List.all_eq_true.1 hor.1 e (List.mem_of_getElem? he)
        have h2 := List.all_eq_true.1 h1 x (List.mem_of_getElem? hx)
        cases x with
        | v v => cases hr with | v _ h3 => exact .v _ h3
        | sl _ _ _ => cases h2

/-- A new slot over what is there already. -/
theorem step_adopt {κ : Kap} {R : Nat → Prop} {h : Nat → Ob} {w : World} (hH : HRep G κ R h w) {nb : Nat} (hv : h nb = .void) (p : Option (Nat × Nat)) (ob : Ob)
    (hfree : ∀ b o, p = some (b, o) → ∀ s o', (h s).live = true → κ s ≠ some (b, o'))
    (hob : Ext κ R h w (updN κ nb p) R (updN h nb ob) w → ObRep (updN κ nb p) R (updN h nb ob) w nb ob) :
    HRep G (updN κ nb p) R (updN h nb ob) w ∧ Ext κ R h w (updN κ nb p) R (updN h nb ob) w := by
  have hext : Ext κ R h w (updN κ nb p) R (updN h nb ob) w := ⟨fun _ hx => hx, fun _ _ => rfl, fun b c t fr hb => ⟨c, fr, hb, rfl⟩, fun s => by
    by_cases hs : s = nb
    · exact .inl (by rw [hs]; exact hv)
    · by_cases hd : h s = .dead
      · exact .inr (.inl (by simp [updN, hs, hd]))
      · exact .inr (.inr ⟨by simp [updN, hs], by simp [updN, hs], hd⟩)⟩
  refine ⟨hH.step hext (fun s => s = nb) (fun s hs => ⟨by simp [updN, hs], by simp [updN, hs], fun _ _ _ _ => rfl, fun hl b o hk => (hH.obs s).notR hl hk⟩) (fun s hs => by subst hs; simpa [updN] using hob hext)
    (fun i j b o o' hi hl1 hl2 hk1 hk2 => ?_) hH.old, hext⟩
  subst hi
  by_cases hj : j = i
  · exact hj.symm
  · simp only [updN, if_true, if_neg hj] at hk1 hk2 hl2
    exact absurd hk2 (hfree b o hk1 j o' hl2)

theorem putsF_append (h : Nat → Ob) (a b : List Wr) : putsF h (a ++ b) = putsF (putsF h a) b := by simp [putsF]

theorem inC_le {nb : Nat} (k : RK) (x : k.T) : nb ≤ (inC nb k x).2.2 := by cases k <;> simp [inC]
theorem inCs_le : ∀ {ks : List RK} {nb : Nat} {t : RTup ks}, nb ≤ (inCs nb ks t).2.2
  | [], _, _ => Nat.le_refl _
  | k :: ks, nb, t => by
    simp only [inCs]
    exact Nat.le_trans (inC_le k t.1) inCs_le

theorem import_rep {w : World} {R : Nat → Prop} : ∀ (ks : List RK) (t : RTup ks) (zs : List Value) (U : Nat → Prop) (nb : Nat) (κ : Kap) (h : Nat → Ob), ResRep R w U ks t zs → HRep G κ R h w →
    (∀ s, nb ≤ s → s < (inCs nb ks t).2.2 → h s = .void) → (∀ s b o, (h s).live = true → κ s = some (b, o) → U b) → (∀ b, R b → U b) →
    ∃ κ' : Kap, HRep G κ' R (putsF h (inCs nb ks t).2.1) w ∧ Ext κ R h w κ' R (putsF h (inCs nb ks t).2.1) w ∧ CReps κ' R (putsF h (inCs nb ks t).2.1) w (inCs nb ks t).1 zs ∧
      ∀ s b o, (putsF h (inCs nb ks t).2.1 s).live = true → κ' s = some (b, o) → ((h s).live = true ∧ κ s = some (b, o)) ∨ ¬ U b
  | [], t, zs, U, nb, κ, h, hr, hH, _, _, _ => by
    have hr : zs = [] := hr
    subst hr
    exact ⟨κ, hH, .refl .., ⟨rfl, fun i c y hx => by simp [inCs] at hx⟩, fun s b o hl hk => .inl ⟨hl, hk⟩⟩
  | .rd q :: ks, t, zs, U, nb, κ, h, hr, hH, hv, hU, hRU => by
    obtain ⟨z, rest, rfl, h1, h2⟩ := hr
    obtain ⟨κ', e1, e2, e3, e4⟩ := import_rep ks t.2 rest U nb κ h h2 hH hv hU hRU
    refine ⟨κ', e1, e2, ?_, e4⟩
    refine ⟨congrArg (· + 1) e3.1, fun i c y hc hy => ?_⟩
    cases i with
    | zero => cases hc; cases hy; exact .p _ _ (h1.ext e2.r e2.cells)
    | succ i => exact e3.2 i c y hc hy
  | .fr s :: ks, t, zs, U, nb, κ, h, hr, hH, hv, hU, hRU => by
    obtain ⟨z, rest, rfl, A, cap, g1, g2, g3, g4⟩ := hr
    have hle : nb + 1 ≤ (inCs (nb + 1) ks t.2).2.2 := inCs_le
    have hvn : h nb = .void := hv nb (Nat.le_refl _) (by simp only [inCs, inC]; omega)
    have hvs : ∀ s', nb + 1 ≤ s' → s' < (inCs (nb + 1) ks t.2).2.2 → updN h nb (.arr s false t.1) s' = .void := fun s' h1 h2 => by
      simp only [updN]; rw [if_neg (by omega)]; exact hv s' (by omega) (by simpa only [inCs, inC] using h2)
    have hput : putsF h (inCs nb (.fr s :: ks) t).2.1 = putsF (updN h nb (.arr s false t.1)) (inCs (nb + 1) ks t.2).2.1 := by
      simp only [inCs, inC]
      rw [putsF_append]; rfl
    have fin : ∀ (κ1 : Kap) (U1 : Nat → Prop), HRep G κ1 R (updN h nb (.arr s false t.1)) w → Ext κ R h w κ1 R (updN h nb (.arr s false t.1)) w → ResRep R w U1 ks t.2 rest →
        (∀ s' b o, (updN h nb (.arr s false t.1) s').live = true → κ1 s' = some (b, o) → U1 b) → (∀ b, U b → U1 b) → CRep κ1 R (updN h nb (.arr s false t.1)) w (.own nb 0 (t.1 : List (List PC)).length) z →
        (∀ s' b o, (updN h nb (.arr s false t.1) s').live = true → κ1 s' = some (b, o) → ((h s').live = true ∧ κ s' = some (b, o)) ∨ ¬ U b) →
        ∃ κ' : Kap, HRep G κ' R (putsF h (inCs nb (.fr s :: ks) t).2.1) w ∧ Ext κ R h w κ' R (putsF h (inCs nb (.fr s :: ks) t).2.1) w ∧ CReps κ' R (putsF h (inCs nb (.fr s :: ks) t).2.1) w (inCs nb (.fr s :: ks) t).1 (z :: rest) ∧
          ∀ s' b o, (putsF h (inCs nb (.fr s :: ks) t).2.1 s').live = true → κ' s' = some (b, o) → ((h s').live = true ∧ κ s' = some (b, o)) ∨ ¬ U b := by
      intro κ1 U1 hH1 hE1 hr1 hU1 hUU hc1 hb1
      rw [hput]
      obtain ⟨κ', e1, e2, e3, e4⟩ := import_rep ks t.2 rest U1 (nb + 1) κ1 _ hr1 hH1 hvs hU1 (fun b hb => hUU b (hRU b hb))
      refine ⟨κ', e1, hE1.trans e2, ⟨congrArg (· + 1) e3.1, fun i c y hc hy => ?_⟩, fun s' b o hl hk => ?_⟩
      · cases i with
        | zero => cases hc; cases hy; exact hc1.ext e2
        | succ i => exact e3.2 i c y hc hy
      · rcases e4 s' b o hl hk with ⟨h1, h2⟩ | h1
        · exact hb1 s' b o h1 h2
        · exact .inr fun hu => h1 (hUU b hu)
    rcases g4 with ⟨g4, g5⟩ | ⟨b, o, c, ty, fr, k1, k2, k3, k4, k5, k6, k7⟩
    · have hnil : (t.1 : List (List PC)) = [] := List.length_eq_zero_iff.1 (by omega)
      obtain ⟨hH1, hE1⟩ := step_adopt hH hvn none (.arr s false t.1) (fun b o e => by cases e) (fun _ => .inl ⟨by simp [updN], hnil⟩)
      refine fin _ U hH1 hE1 g5 (fun s' b o hl hk => ?_) (fun _ hb => hb) ?_ (fun s' b o hl hk => ?_)
      · by_cases hs : s' = nb
        · simp [updN, hs] at hk
        · simp only [updN, if_neg hs] at hl hk; exact hU s' b o hl hk
      · rw [g1]; exact .own nb 0 _ cap A s (by simp [updN, Ob.stride]) g2 g3 (.inl g4)
      · by_cases hs : s' = nb
        · simp [updN, hs] at hk
        · simp only [updN, if_neg hs] at hl hk; exact .inl ⟨hl, hk⟩
    · obtain ⟨hH1, hE1⟩ := step_adopt hH hvn (some (b, o)) (.arr s false t.1) (fun b' o' e s' o2 hl hk => by cases e; exact k2 (hU s' b o2 hl hk)) (fun hext => .inr ⟨b, o, c, ty, fr, by simp [updN], k3, k4, (fun e => by cases e), fun _ hR => k2 (hRU b hR), Nat.le_trans (Nat.add_le_add_left (Nat.mul_le_mul_right s g2) o) k5, fun i e he => ⟨(k6 i e he).1, fun j x hx => by
            obtain ⟨y, hy, hr⟩ := (k6 i e he).2 j x hx
            exact ⟨y, hy, hr⟩⟩⟩)
      refine fin _ (fun x => U x ∨ x = b) hH1 hE1 k7 (fun s' b' o' hl hk => ?_) (fun _ hb => .inl hb) ?_ (fun s' b' o' hl hk => ?_)
      · by_cases hs : s' = nb
        · simp only [updN, if_pos hs, Option.some.injEq, Prod.mk.injEq] at hk; exact .inr hk.1.symm
        · simp only [updN, if_neg hs] at hl hk; exact .inl (hU s' b' o' hl hk)
      · rw [g1]; refine .own nb 0 _ cap A s (by simp [updN, Ob.stride]) g2 g3 (.inr ⟨b, o, by simp [updN], by simp [k1], c, ty, fr, k3, by simpa using k5⟩)
      · by_cases hs : s' = nb
        · simp only [updN, if_pos hs, Option.some.injEq, Prod.mk.injEq] at hk; exact .inr (by rw [← hk.1]; exact k2)
        · simp only [updN, if_neg hs] at hl hk; exact .inl ⟨hl, hk⟩
end Go.Ev

namespace Go.Ev
open Go
variable {G : Nat → Option (List PC)}

theorem CReps.take {κ : Kap} {R : Nat → Prop} {h : Nat → Ob} {w : World} {cs : List C} {ys : List Value} (hr : CReps κ R h w cs ys) (n : Nat) : CReps κ R h w (cs.take n) (ys.take n) := by
  simpa using hr.drop 0 n
theorem CReps.dropAll {κ : Kap} {R : Nat → Prop} {h : Nat → Ob} {w : World} {cs : List C} {ys : List Value} (hr : CReps κ R h w cs ys) (n : Nat) : CReps κ R h w (cs.drop n) (ys.drop n) :=
  ⟨by simp [hr.1], fun i c y h1 h2 => hr.2 (n + i) c y (by simpa using h1) (by simpa using h2)⟩

theorem group_rep {P : Program} {κ : Kap} {R : Nat → Prop} {h : Nat → Ob} {w : World} : ∀ (tys : List TypeId) (cs : List C) (zs : List Value) (vals : List SV) (vs : List Value), groupC P tys cs = some vals → Grouped P tys zs vs → CReps κ R h w cs zs → SReps κ R h w vals vs
  | [], [], zs, vals, vs, h1, h2, _ => by
    cases h1
    obtain ⟨_, rfl⟩ := h2
    exact .nil
  | [], _ :: _, _, _, _, h1, _, _ => by cases h1
  | t :: ts, cs, zs, vals, vs, h1, h2, h3 => by
    simp only [groupC, Option.bind_eq_some_iff] at h1
    obtain ⟨n, hn, agg, ha, h1⟩ := h1
    split at h1
    · simp only [Option.bind_eq_some_iff, Option.some.injEq] at h1
      obtain ⟨v, hv, rest, hrest, rfl⟩ := h1
      obtain ⟨n', agg', rest', g1, g2, g3, rfl, g5, g6⟩ := h2
      rw [hn] at g1; cases g1
      rw [ha] at g2; cases g2
      exact .cons (mkC_rep hv (h3.take n)).1 (group_rep ts _ _ rest rest' hrest g6 (h3.dropAll n))
    · cases h1

theorem args_rep {E : Env} {κ : Kap} {R : Nat → Prop} {tm : List AV} {t' : Nat → AV} {h' : Nat → Ob} {a : Act} {w : World} (hrel : Rel E.G κ R tm.length t' h' a w) : ∀ (xs : List Operand) (as : List SV), (xs.mapM fun y => (operand tm y).bind AV.sv) = some as →
    (∀ x ∈ xs, ∀ t, x = .tmp t → t' t = tget tm t) → SReps κ R h' w as (xs.map a.eval)
  | [], as, h, _ => by simp at h; subst h; exact .nil
  | x :: xs, as, h, hal => by
    simp only [List.mapM_cons, bind, Option.bind_eq_some_iff, pure, Option.some.injEq] at h
    obtain ⟨v, ⟨u, hu, hv⟩, rest, hrest, rfl⟩ := h
    refine .cons ?_ (args_rep hrel xs rest hrest fun y hy => hal y (List.mem_cons_of_mem _ hy))
    have := operand_rep hrel hu (hal x (List.mem_cons_self ..))
    cases u with
    | s z => cases hv; exact this
    | tup l => cases hv
    | g _ _ _ => cases hv

theorem SReps.append {κ : Kap} {R : Nat → Prop} {h : Nat → Ob} {w : World} {a b : List SV} {x y : List Value} (h1 : SReps κ R h w a x) (h2 : SReps κ R h w b y) : SReps κ R h w (a ++ b) (x ++ y) := by
  refine ⟨by simp [h1.1, h2.1], fun i c z hc hz => ?_⟩
  by_cases hi : i < x.length
  · rw [List.getElem?_append_left (by rw [h1.1]; exact hi)] at hc
    rw [List.getElem?_append_left hi] at hz
    exact h1.2 i c z hc hz
  · rw [List.getElem?_append_right (by rw [h1.1]; omega), h1.1] at hc
    rw [List.getElem?_append_right (by omega)] at hz
    exact h2.2 _ c z hc hz

theorem run_call {P : Program} {w : World} {a : Act} {x : Operand} {args : Array Operand} {ts : Array TypeId} {f : FuncId} {fn : Func} {vs : List Value} {dst : Option Tmp} {ty : TypeId} {pos : String} {after : Array Edge} {guard : Option (Nat × Bool)}
    (hx : a.eval x = .func (.func f) #[] vs.toArray) (hf : P.funcs[f]? = some fn) (hn : (fn.name == "runtime.NumGoroutine") = false) {c : Code} (hb : fn.body = some c) :
    (execOp a.eval ⟨dst, .call { callee := .value x, args, argTypes := ts }, ty, pos, after, guard⟩).run P w = .ok (.enter f (args.toList.map a.eval ++ vs).toArray) w := by
  have harr : args.map a.eval ++ vs.toArray = (args.toList.map a.eval ++ vs).toArray := by
    apply Array.ext'; simp
  have hn' : ¬ fn.name = "runtime.NumGoroutine" := by simpa using hn
  simp [execOp, resolve, hx, Deferred.ofValue, invoke, callFunc, hf, hn', hb, harr]

theorem run_indexByte (P : Program) (w : World) (s : ByteArray) (k : Int) : (Extern.BytealgIndexByte.indexByte #[.string s, .int .u8 k]).run P w =
    .ok (.int .i64 (match (List.range s.size).find? fun i => s[i]! == k.toNat.toUInt8 with | some i => (i : Int) | none => -1)) w := by
  show ((match (List.range s.size).find? fun i => s[i]! == k.toNat.toUInt8 with
    | some i => pure (goInt i)
    | none => pure (goInt (-1)) : Sem Value)).run P w = _
  cases (List.range s.size).find? fun i => s[i]! == k.toNat.toUInt8 <;> rfl
theorem run_count (P : Program) (w : World) (s : ByteArray) (k : Int) : (Extern.BytealgCount.count #[.string s, .int .u8 k]).run P w =
    .ok (.int .i64 (s.foldl (fun (n : Int) x => if x == k.toNat.toUInt8 then n + 1 else n) ((0 : Nat) : Int))) w := rfl

theorem run_extern {P : Program} {w : World} {a : Act} {x : Operand} {args : Array Operand} {ts : Array TypeId} {f : FuncId} {fn : Func} {dst : Option Tmp} {ty : TypeId} {pos : String} {after : Array Edge} {guard : Option (Nat × Bool)}
    (hx : a.eval x = .func (.func f) #[] #[]) (hf : P.funcs[f]? = some fn) (hn : (fn.name == "runtime.NumGoroutine") = false) (hb : fn.body = none) (h1 : Extern.findNext fn = none) {e : Array Value → Sem Value} (h2 : Extern.find fn = some e) :
    (execOp a.eval ⟨dst, .call { callee := .value x, args, argTypes := ts }, ty, pos, after, guard⟩).run P w = ((e (args.map a.eval)).run P w).andThen fun v w' => .ok (.value v) w' := by
  have hn' : ¬ fn.name = "runtime.NumGoroutine" := by simpa using hn
  simp [execOp, resolve, hx, Deferred.ofValue, invoke, callFunc, hf, hn', hb, h1, h2]

section ops
variable {ρ : Type} {E : Env} {tm : List AV} {H : List Ob} {K : Out → Option ρ} {r : ρ}
variable {call : (f : FuncId) → List SV → Option (RTup (rks E f))} {body : Code → St → (X → St → Option ρ) → Option ρ}
variable {dst : Option Tmp} {ty : TypeId} {pos : String} {after : Array Edge} {guard : Option (Nat × Bool)}

theorem callV_sim (hcall : ∀ f as r, call f as = some r → natPre E f as = true → FnOK E f as r) (hbody : ∀ c st K r, body c st K = some r → CodeOK E c st K r) {x : Operand} {args : Array Operand} {ts : Array TypeId} {f : FuncId} {fn : Func} {c : Code} {caps : List C} {as : List SV}
    (hx : operand tm x = some (.s (.one (.clo f caps)))) (has : (args.toList.mapM fun y => (operand tm y).bind AV.sv) = some as) (hf : E.P.funcs[f]? = some fn) (hnm : (fn.name == "runtime.NumGoroutine") = false) (hb : fn.body = some c)
    (h : callV E call body H H.length f (as ++ caps.map .one) K = some r) :
    ∃ out, K out = some r ∧ SimF E ⟨dst, .call { callee := .value x, args, argTypes := ts }, ty, pos, after, guard⟩ tm.length (tget tm) (hget H) H.length out := by
  have hargs : ∀ (t' : Nat → AV) (h' : Nat → Ob) (κ : Kap) (R : Nat → Prop) (a : Act) (w : World) (out : Out), Alike ⟨dst, .call { callee := .value x, args, argTypes := ts }, ty, pos, after, guard⟩ tm.length (tget tm) t' (hget H) h' H.length out → Rel E.G κ R tm.length t' h' a w →
      ∃ vs : List Value, a.eval x = .func (.func f) #[] vs.toArray ∧ SReps κ R h' w (as ++ caps.map .one) (args.toList.map a.eval ++ vs) := by
    intro t' h' κ R a w out hal hrel
    have hc : CRep κ R h' w (.clo f caps) (a.eval x) := operand_rep hrel hx (hal.opnd (by simp [Op.operands, Call.operands]))
    generalize hy : a.eval x = y at hc
    cases hc with
    | clo _ _ vs hl hv =>
      refine ⟨vs, rfl, (args_rep hrel _ as has fun z hz => hal.opnd (by simp [Op.operands, Call.operands]; exact .inr (by simpa using hz))).append ⟨by simp [hl], fun i u y hu hy => ?_⟩⟩
      rw [List.getElem?_map] at hu
      cases hcp : caps[i]? with
      | none => rw [hcp] at hu; cases hu
      | some cc => rw [hcp] at hu; cases hu; exact hv i cc y hcp hy
  unfold callV at h
  split at h
  · next as' rd hexp =>
    have hexp : expSVs (E.peek f) H (as ++ caps.map .one) = some (as', rd) := by
      split at hexp
      · cases hexp
      · exact hexp
    simp only [Option.bind_eq_some_iff] at h
    obtain ⟨res, hres, h⟩ := h
    have hpre : natPre E f as' = true := by
      cases hc : natPre E f as' with
      | true => rfl
      | false => rw [hc] at h; cases h
    rw [hpre] at h
    simp only [cond_true] at h
    have hflat : rd.isEmpty = true ∨ flatR (rks E f) res = true := by
      cases hc : (rd.isEmpty || flatR (rks E f) res) with
      | true => simpa using hc
      | false => rw [hc] at h; cases h
    have h : (((E.P.funcs[f]?).bind fun fn => groupC E.P fn.resultTypes.toList (inCs H.length (rks E f) res).1).bind fun vs => K ⟨resVal vs, (inCs H.length (rks E f) res).2.1, rd, (inCs H.length (rks E f) res).2.2⟩) = some r := by
      cases hc : (rd.isEmpty || flatR (rks E f) res) with
      | true => rw [hc] at h; exact h
      | false => rw [hc] at h; cases h
    simp only [Option.bind_eq_some_iff, hf, Option.some.injEq] at h
    obtain ⟨vals, ⟨fn', hfn', hg⟩, hK⟩ := h
    subst hfn'
    refine ⟨_, hK, fun t' h' κ R a w hal hrel next Q hn => ?_⟩
    obtain ⟨vs, hev, hsr⟩ := hargs t' h' κ R a w _ hal hrel
    unfold Oper.wp
    rw [run_call hev hf hnm hb, Oper.upon_enter]
    have hH := hrel.heap
    let Rc : Nat → Prop := fun b => R b ∨ (rd ≠ [] ∧ ∃ slot o, κ slot = some (b, o) ∧ (h' slot).stride ≠ none)
    have hRc : ∀ b, Rc b → b < w.heap.size := by
      rintro b (hb' | ⟨_, slot, o, hk, hst⟩)
      · exact hH.old b hb'
      · exact (hH.obs slot).block hst hk
    have hsr' := expSVs_rep (Rc := Rc) hH (fun b hb' => .inl hb') _ as' rd _ hexp hal.regs (fun slot hs hst b o hk => .inr ⟨fun e => (by rw [e] at hs; cases hs), slot, o, hk, hst⟩) hsr
    refine Calls.mono (hcall f as' res hres hpre Rc w _ hRc (hH.glob.ext (fun b hb' => .inl hb') (fun _ _ => rfl)) hsr') ?_
    intro e w' he
    cases e with
    | panicked chain => exact he.elim
    | outgrown => exact he.elim
    | returned v =>
      obtain ⟨R', zs, vs', fn', hfn', q1, q2, q3, q4, q5, q6, q7, q8, q9, q10, rfl⟩ := he
      rw [hf] at hfn'; cases hfn'
      let R2 : Nat → Prop := fun b => R b ∨ (R' b ∧ w.heap.size ≤ b)
      have hext : Ext κ R h' w κ R2 h' w' := ⟨fun b hb' => .inl hb', fun b hb' => q4 b (hH.old b hb'), fun b c t fr hb' => ⟨c, fr, by rw [q4 b (Array.getElem?_eq_some_iff.1 hb').1]; exact hb', rfl⟩, (Ext.refl κ R h' w).slot⟩
      have hblk : ∀ s b o, (h' s).live = true → κ s = some (b, o) → b < w.heap.size := fun s b o hl hk => (hH.obs s).block (Ob.live_stride hl) hk
      have hH1 : HRep E.G κ R2 h' w' := hH.step hext (fun _ => False) (fun s _ => ⟨rfl, rfl, fun hst b o hk => q4 b ((hH.obs s).block hst hk), fun hl b o hk hR2 => by
          rcases hR2 with hR2 | ⟨_, hR2⟩
          · exact (hH.obs s).notR hl hk hR2
          · have := hblk s b o hl hk; omega⟩) (fun _ hs => hs.elim) (fun _ _ _ _ _ hs => hs.elim) (fun b hb' => by
          rcases hb' with hb' | ⟨hb', _⟩
          · exact Nat.lt_of_lt_of_le (hH.old b hb') q8
          · exact q3 b hb')
      have hweak : ResRep R2 w' (fun b => b < w.heap.size ∨ R' b) (rks E f) res zs := by
        refine q9.weaken ?_
        rcases hflat with hflat | hflat
        · refine .inl fun b hb' => ?_
          have hrd : rd = [] := by simpa using hflat
          rcases q2 b hb' with h0 | h0
          · rcases h0 with h0 | ⟨h0, _⟩
            · exact .inl h0
            · exact absurd hrd h0
          · exact .inr ⟨hb', h0⟩
        · exact .inr hflat
      obtain ⟨κ', i1, i2, i3, i4⟩ := import_rep (rks E f) res zs _ H.length κ h' hweak hH1 (fun s h1 h2 => hal.free s h1 h2) (fun s b o hl hk => .inl (hblk s b o hl hk)) (fun b hb' => by
        rcases hb' with hb' | ⟨hb', _⟩
        · exact .inl (hH.old b hb')
        · exact .inr hb')
      have hfr : Fr κ R h' w κ' R2 (putsF h' (inCs H.length (rks E f) res).2.1) w' := ⟨hext.trans i2, q5, q6, q7, q8, fun b hb' _ => q4 b hb', fun s b o hl hk => by
          rcases i4 s b o hl hk with ⟨h1, h2⟩ | h1
          · exact .inr ⟨s, o, h1, h2⟩
          · refine .inl ?_
            rcases Nat.lt_or_ge b w.heap.size with h0 | h0
            · exact absurd (Or.inl h0) h1
            · exact h0, fun b hb' => by
          rcases hb' with hb' | ⟨_, hb'⟩
          · exact .inl hb'
          · exact .inr (.inl hb')⟩
      exact hn κ' R2 _ w' (hrel.put hfr.ext i1 dst (resVal_rep (group_rep _ _ _ _ _ hg q10 i3))) hfr
  · simp only [Option.bind_eq_some_iff, hf, Option.some.injEq] at h
    obtain ⟨fn', rfl, c', hc', h⟩ := h
    have hcc : c' = c := by first | exact Option.some.inj (hc'.symm.trans hb) | exact hc'.symm
    subst hcc
    obtain ⟨e, st', hKb, hlen, hwp⟩ := hbody _ _ _ _ h
    have key : ∀ (hKb : (resVals E st' fn.results.toList fn.resultTypes.toList fun vs => K ⟨resVal vs, [.heap st'.heap], [.all], st'.heap.length⟩) = some r) (he : e.conc = .normal ∨ e.conc = .ret),
        ∃ out, K out = some r ∧ SimF E ⟨dst, .call { callee := .value x, args, argTypes := ts }, ty, pos, after, guard⟩ tm.length (tget tm) (hget H) H.length out := by
      intro hKb he
      obtain ⟨xs, hK, hrun⟩ := resVals_rep _ _ _ _ hKb
      refine ⟨_, hK, fun t' h' κ R a w hal hrel next Q hn => ?_⟩
      have hh' : h' = hget H := by
        have := hal.regs .all (by simp)
        simpa [Reg.getF] using this
      subst hh'
      obtain ⟨vs, hev, hsr⟩ := hargs t' (hget H) κ R a w _ hal hrel
      unfold Oper.wp
      rw [run_call hev hf hnm hb, Oper.upon_enter]
      refine calls_of_wp hf hb (wp_mono (hwp κ R _ w (init_rel hrel.heap hsr)).wp ?_)
      rintro e' a' w' ⟨rfl, κ', R', hrel', hfr⟩
      have fin : a'.defers = [] ∧ ∃ v, (results fn a'.tmps).run E.P w' = .ok v w' ∧ next (a.put dst v) w' := by
        rw [← hlen] at hrel'
        obtain ⟨vs', zs, r1, r2, r3, r4⟩ := hrun κ' R' a' w' hrel'
        exact ⟨hrel'.defers, _, run_results r1, hn κ' R' _ w' (hrel.put hfr.ext hrel'.heap dst (resVal_rep r2)) hfr⟩
      rcases he with he | he <;> rw [he] <;> exact fin
    cases e with
    | normal => exact key hKb (.inl rfl)
    | ret => exact key hKb (.inr rfl)
    | exit id => cases hKb

theorem extern_sim {x : Operand} {args : Array Operand} {ts : Array TypeId} {f : FuncId} {fn : Func} {as : List SV} {v : AV}
    (hx : operand tm x = some (.s (.one (.clo f [])))) (has : (args.toList.mapM fun y => (operand tm y).bind AV.sv) = some as) (hf : E.P.funcs[f]? = some fn) (hnm : (fn.name == "runtime.NumGoroutine") = false) (hb : fn.body = none) (ho : fn.origin = "")
    (h : externV fn.name (as.map .s) = some v) :
    RunF E ⟨dst, .call { callee := .value x, args, argTypes := ts }, ty, pos, after, guard⟩ tm.length (tget tm) (hget H) H.length ⟨v, [], [], H.length⟩ := by
  refine .of_value fun t' h' κ R a w hal hrel => ?_
  have hc : CRep κ R h' w (.clo f []) (a.eval x) := operand_rep hrel hx (hal.opnd (by simp [Op.operands, Call.operands]))
  have hsr := args_rep hrel _ as has fun z hz => hal.opnd (by simp [Op.operands, Call.operands]; exact .inr (by simpa using hz))
  generalize hy : a.eval x = y at hc
  cases hc with
  | clo _ _ vs hl _ =>
    have : vs = [] := List.length_eq_zero_iff.1 hl.symm
    subst this
    have hone : ∀ (s : ByteArray) (k : Int), as.map AV.s = [.s (.one (.p (.v (.string s)))), .s (.one (.p (.v (.int .u8 k))))] → args.map a.eval = #[.string s, .int .u8 k] := by
      intro s k hs
      have has' : as = [.one (.p (.v (.string s))), .one (.p (.v (.int .u8 k)))] := by
        match as, hs with
        | [a1, a2], hs => simp only [List.map_cons, List.map_nil, List.cons.injEq, AV.s.injEq, and_true] at hs; rw [hs.1, hs.2]
      subst has'
      obtain ⟨y1, r1, e1, h1, h2⟩ := hsr.uncons
      obtain ⟨y2, r2, rfl, h3, h4⟩ := h2.uncons
      have : r2 = [] := List.length_eq_zero_iff.1 h4.1.symm
      subst this
      have z1 : y1 = .string s := by have h1 : CRep κ R h' w _ y1 := h1; cases h1 with | p _ _ hp => cases hp; rfl
      have z2 : y2 = .int .u8 k := by have h3 : CRep κ R h' w _ y2 := h3; cases h3 with | p _ _ hp => cases hp; rfl
      apply Array.ext'
      rw [Array.toList_map, e1, z1, z2]
    unfold externV at h
    split at h
    · next hname =>
      split at h
      · next s k hs =>
        cases h
        have hv := hone s k hs
        refine ⟨_, ?_, rep_ints ..⟩
        have hfn : Extern.findNext fn = none := by unfold Extern.findNext; rw [hname, ho]; rfl
        have hfi : Extern.find fn = some Extern.BytealgIndexByte.indexByte := by unfold Extern.find; rw [hname]; rfl
        rw [run_extern hy hf hnm hb hfn hfi, hv, run_indexByte]; rfl
      · cases h
    · split at h
      · next hname =>
        split at h
        · next s k hs =>
          cases h
          have hv := hone s k hs
          refine ⟨_, ?_, rep_ints ..⟩
          have hfn : Extern.findNext fn = none := by unfold Extern.findNext; rw [hname, ho]; rfl
          have hfi : Extern.find fn = some Extern.BytealgCount.count := by unfold Extern.find; rw [hname]; rfl
          rw [run_extern hy hf hnm hb hfn hfi, hv, run_count]; rfl
        · cases h
      · cases h

/-- Every operation. -/
theorem opV_sim (hcall : ∀ f as r, call f as = some r → natPre E f as = true → FnOK E f as r) (hbody : ∀ c st K r, body c st K = some r → CodeOK E c st K r) {o : Oper} (h : opV E call body tm H H.length o K = some r) :
    ∃ out, K out = some r ∧ SimF E o tm.length (tget tm) (hget H) H.length out := by
  have hrest : ∀ h : aop E tm H H.length o K = some r, ∃ out, K out = some r ∧ SimF E o tm.length (tget tm) (hget H) H.length out := fun h =>
    let ⟨out, h1, h2⟩ := aop_sim h
    ⟨out, h1, h2.sim⟩
  obtain ⟨dst, op, ty, pos, after, guard⟩ := o
  unfold opV at h
  split at h
  · next x args ts hop =>
    simp only at hop
    subst hop
    simp only [Option.bind_eq_some_iff] at h
    obtain ⟨fv, hfv, as, has, h⟩ := h
    split at h
    · next f caps =>
      simp only [Option.bind_eq_some_iff] at h
      obtain ⟨fn, hf, h⟩ := h
      split at h
      · cases h
      · next hnm =>
        have hnm : (fn.name == "runtime.NumGoroutine") = false := by simpa using hnm
        split at h
        · next c hb => exact callV_sim hcall hbody hfv has hf hnm hb h
        · next hb =>
          split at h
          · next hcond =>
            simp only [Bool.and_eq_true, List.isEmpty_iff, beq_iff_eq] at hcond
            obtain ⟨hcaps, hor⟩ := hcond
            subst hcaps
            simp only [Option.bind_eq_some_iff] at h
            obtain ⟨v, hv, hK⟩ := h
            exact ⟨_, hK, (extern_sim hfv has hf hnm hb hor hv).sim⟩
          · cases h
    · cases h
  · rw [aopF_eq] at h; exact hrest h
end ops
end Go.Ev
