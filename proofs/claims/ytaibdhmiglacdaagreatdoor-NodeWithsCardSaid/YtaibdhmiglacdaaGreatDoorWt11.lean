/-
  What an argument's reading says of its cells: flat types (integers, bools, strings, structs, arrays, slices of such).
-/
import Derived.Test.YtaibdhmiglacdaaGreatDoorWt1
import Derived.OpenShut
import Derived.ChangeReads
import Derived.ChangeBears
import Derived.ReadAgain
import Derived.ChangeArms
import GoSem.ClaimJoined

namespace Go.Ev
open Go

/-- The shape of a cell. -/
inductive Sh where
  | int (k : IntKind)
  | bool
  | str
  | list (bs : Nat) (es : List Sh)
  deriving Inhabited

/-- The shapes of a type's cells. -/
def shapes (P : Program) : Nat → TypeId → Option (List Sh)
  | 0, _ => none
  | n + 1, t =>
    match P.underlying t with
    | some .bool => some [.bool]
    | some (.int k) => some [.int k]
    | some .string => some [.str]
    | some (.slice e) => (shapes P n e).bind fun l => if l.isEmpty then none else some [.list (P.bytesOf e) l]
    | some (.struct fs) => (fs.toList.mapM fun f => shapes P n f.type).map List.flatten
    | some (.array m e) => (shapes P n e).map fun l => (List.replicate m l).flatten
    | _ => none

/-- A cell of a shape. -/
inductive Fit : Sh → PC → Prop where
  | int (k : IntKind) (n : Int) : (Lit.int k n).wf = true → Fit (.int k) (.v (.int k n))
  | bool (b : Bool) : Fit .bool (.v (.bool b))
  | str (s : ByteArray) : s.size ≤ reachBytes → Fit .str (.v (.string s))
  | list (bs : Nat) (es : List Sh) (l : List (List PC)) : l.length ≤ maxLen → l.length * bs ≤ reachBytes → (∀ e ∈ l, e.length = es.length) → (∀ (e : List PC) (i : Nat) (sh : Sh) (c : PC), e ∈ l → es[i]? = some sh → e[i]? = some c → Fit sh c) →
      Fit (.list bs es) (.sl es.length false l)
/-- Cells of shapes. -/
def Fits (es : List Sh) (cs : List PC) : Prop := cs.length = es.length ∧ ∀ (i : Nat) (sh : Sh) (c : PC), es[i]? = some sh → cs[i]? = some c → Fit sh c

theorem Fits.nil : Fits [] [] := ⟨rfl, fun i sh c h => by simp at h⟩
theorem Fits.append {es es' : List Sh} {cs cs' : List PC} (h : Fits es cs) (h' : Fits es' cs') : Fits (es ++ es') (cs ++ cs') := by
  refine ⟨by simp [h.1, h'.1], fun i sh c hs hc => ?_⟩
  by_cases hi : i < es.length
  · rw [List.getElem?_append_left hi] at hs
    rw [List.getElem?_append_left (by rw [h.1]; exact hi)] at hc
    exact h.2 i sh c hs hc
  · rw [List.getElem?_append_right (by omega)] at hs
    rw [List.getElem?_append_right (by rw [h.1]; omega), h.1] at hc
    exact h'.2 _ sh c hs hc
theorem Fits.single {sh : Sh} {c : PC} (h : Fit sh c) : Fits [sh] [c] := ⟨rfl, fun i sh' c' hs hc => by
  cases i with
  | zero => simp at hs hc; subst hs; subst hc; exact h
  | succ i => simp at hs⟩
theorem Fits.cons {sh : Sh} {es : List Sh} {c : PC} {cs : List PC} (h : Fit sh c) (h' : Fits es cs) : Fits (sh :: es) (c :: cs) := (Fits.single h).append h'
theorem Fits.uncons {sh : Sh} {es : List Sh} {cs : List PC} (h : Fits (sh :: es) cs) : ∃ c rest, cs = c :: rest ∧ Fit sh c ∧ Fits es rest := by
  cases cs with
  | nil => exact absurd h.1 (by simp)
  | cons c rest => exact ⟨c, rest, rfl, h.2 0 sh c rfl rfl, by simpa using h.1, fun i sh' c' hs hc => h.2 (i + 1) sh' c' (by simpa using hs) (by simpa using hc)⟩
theorem Fits.unnil {cs : List PC} (h : Fits [] cs) : cs = [] := List.eq_nil_of_length_eq_zero h.1

theorem PReps.nil {R : Nat → Prop} {w : World} : PReps R w [] [] := ⟨rfl, fun i c y h => by simp at h⟩
theorem PReps.append {R : Nat → Prop} {w : World} {cs cs' : List PC} {ys ys' : List Value} (h : PReps R w cs ys) (h' : PReps R w cs' ys') : PReps R w (cs ++ cs') (ys ++ ys') := by
  refine ⟨by simp [h.1, h'.1], fun i c y hc hy => ?_⟩
  by_cases hi : i < cs.length
  · rw [List.getElem?_append_left hi] at hc
    rw [List.getElem?_append_left (by rw [← h.1]; exact hi)] at hy
    exact h.2 i c y hc hy
  · rw [List.getElem?_append_right (by omega)] at hc
    rw [List.getElem?_append_right (by rw [← h.1]; omega), ← h.1] at hy
    exact h'.2 _ c y hc hy
theorem PReps.single {R : Nat → Prop} {w : World} {c : PC} {y : Value} (h : PRep R w c y) : PReps R w [c] [y] := ⟨rfl, fun i c' y' hc hy => by
  cases i with
  | zero => simp at hc hy; subst hc; subst hy; exact h
  | succ i => simp at hc⟩

/-- Parts, one behind the other. -/
theorem cat_fits {R : Nat → Prop} {w : World} {cs : List Value} : ∀ (l : List (Nat × List Sh)) (o : Nat),
    (∀ (j : Nat) (p : Nat × List Sh), l[j]? = some p → p.1 = o + ((l.take j).map fun q => q.2.length).sum) →
    (∀ p ∈ l, ∃ pcs, Fits p.2 pcs ∧ PReps R w pcs ((cs.drop p.1).take p.2.length)) →
    ∃ pcs, Fits (l.map (·.2)).flatten pcs ∧ PReps R w pcs ((cs.drop o).take (l.map fun q => q.2.length).sum)
  | [], o, _, _ => ⟨[], Fits.nil, by simpa using PReps.nil⟩
  | (o', es) :: l, o, ho, hp => by
    have h0 := ho 0 (o', es) rfl
    simp at h0
    subst h0
    obtain ⟨p1, f1, r1⟩ := hp (o', es) (by simp)
    obtain ⟨p2, f2, r2⟩ := cat_fits l (o' + es.length) (fun j p hj => by
      have h1 := ho (j + 1) p (by simpa using hj)
      rw [h1, List.take_succ_cons, List.map_cons, List.sum_cons, Nat.add_assoc]) (fun p hm => hp p (by simp [hm]))
    refine ⟨p1 ++ p2, by simpa using f1.append f2, ?_⟩
    have e : (cs.drop o').take ((((o', es) :: l).map fun q => q.2.length).sum) = (cs.drop o').take es.length ++ (cs.drop (o' + es.length)).take ((l.map fun q => q.2.length).sum) := by
      simp only [List.map_cons, List.sum_cons]
      rw [List.take_add, List.drop_drop]
    rw [e]
    exact r1.append r2

theorem exists_list {α : Type} {Q : Nat → α → Prop} : ∀ (n : Nat), (∀ i, i < n → ∃ x, Q i x) → ∃ l : List α, l.length = n ∧ ∀ (i : Nat) (x : α), l[i]? = some x → Q i x
  | 0, _ => ⟨[], rfl, fun i x h => by simp at h⟩
  | n + 1, h => by
    obtain ⟨l, hl, hq⟩ := exists_list n fun i hi => h i (by omega)
    obtain ⟨x, hx⟩ := h n (by omega)
    refine ⟨l ++ [x], by simp [hl], fun i y hy => ?_⟩
    by_cases hi : i < l.length
    · rw [List.getElem?_append_left hi] at hy
      exact hq i y hy
    · rw [List.getElem?_append_right (by omega)] at hy
      have : i - l.length = 0 := by
        by_cases h0 : i - l.length = 0
        · exact h0
        · simp [h0] at hy
      rw [this] at hy
      simp at hy
      subst hy
      rw [show i = n by omega]
      exact hx

/-- Blocks that are there. -/
def there (w : World) (b : Nat) : Prop := b < w.heap.size

theorem cells?_get {w : World} {base : Nat} {a : Addr} {n : Nat} {cs : List Value} (h : w.cells? base a n = some cs) : cs.length = n ∧ ∀ j, j < n → w.cell? (a.add j) = cs[j]? := by
  unfold World.cells? at h
  split at h
  · exact ⟨by simpa using mapM_some_length h, fun j hj => mapM_some_get h j j (by simp [hj])⟩
  · cases h
theorem cell?_some {w : World} {a : Addr} {v : Value} (h : w.cell? a = some v) : a.spot = none ∧ there w a.block := by
  unfold World.cell? at h
  split at h
  · next c t fr hb =>
    split at h
    · cases h
    · next hs => exact ⟨by simpa using hs, by
        unfold there
        rcases Nat.lt_or_ge a.block w.heap.size with hl | hl
        · exact hl
        · simp only [Array.getElem?_eq_none hl] at hb; cases hb⟩
  · cases h
theorem add_plain {b o n : Nat} : (⟨b, o, none⟩ : Addr).add n = ⟨b, o + n, none⟩ := by
  unfold Addr.add
  split
  · next h => subst h; rfl
  · rfl

section
variable {H : Type} {enc : TypeId × Value → H} {P : Program} {w : World} {base : Nat} {spare : Nat → Bool} {held : Bool}

theorem mapM_some_all {α β : Type} {f : α → Option β} : ∀ {l : List α} {r : List β}, l.mapM f = some r → ∀ (i : Nat) (x : α), l[i]? = some x → ∃ y, r[i]? = some y ∧ f x = some y := by
  intro l r h i x hx
  have hi : i < r.length := by
    rw [mapM_some_length h]
    rcases Nat.lt_or_ge i l.length with hl | hl
    · exact hl
    · rw [List.getElem?_eq_none hl] at hx; cases hx
  have := mapM_some_get h i x hx
  rw [List.getElem?_eq_getElem hi] at this
  exact ⟨_, List.getElem?_eq_getElem hi, this⟩

theorem sum_map_len {α : Type} (g : α → Nat) : ∀ (l : List α) (r : List (List Sh)), l.length = r.length → (∀ (i : Nat) (x : α) (y : List Sh), l[i]? = some x → r[i]? = some y → g x = y.length) → (l.map g).sum = (r.map List.length).sum
  | [], [], _, _ => rfl
  | [], _ :: _, h, _ => by simp at h
  | _ :: _, [], h, _ => by simp at h
  | x :: l, y :: r, h, hg => by
    simp only [List.map_cons, List.sum_cons]
    rw [hg 0 x y rfl rfl, sum_map_len g l r (by simpa using h) fun i a b ha hb => hg (i + 1) a b (by simpa using ha) (by simpa using hb)]

theorem weightsEach_get {P : Program} {k : Nat} : ∀ {ts : List TypeId} {ds : List (DataW H)}, (DataW.weightsEach P ts ds).all (· ≤ k) = true → ∀ (i : Nat) (t : TypeId) (d : DataW H), ts[i]? = some t → ds[i]? = some d → (d.weights P t).all (· ≤ k) = true
  | [], _, _, i, t, d, ht, _ => by simp at ht
  | _ :: _, [], _, i, t, d, _, hd => by simp at hd
  | t0 :: ts, d0 :: ds, h, i, t, d, ht, hd => by
    simp only [DataW.weightsEach, List.all_append, Bool.and_eq_true] at h
    cases i with
    | zero => simp at ht hd; subst ht; subst hd; exact h.1
    | succ i => exact weightsEach_get h.2 i t d (by simpa using ht) (by simpa using hd)
theorem weightsAll_get {P : Program} {k : Nat} {e : TypeId} : ∀ {ds : List (DataW H)}, (DataW.weightsAll P e ds).all (· ≤ k) = true → ∀ d ∈ ds, (d.weights P e).all (· ≤ k) = true
  | [], _, d, hd => by simp at hd
  | d0 :: ds, h, d, hd => by
    simp only [DataW.weightsAll, List.all_append, Bool.and_eq_true] at h
    rcases List.mem_cons.1 hd with rfl | hd
    · exact h.1
    · exact weightsAll_get h.2 d hd

/-- What is read of a flat type is of its shapes. -/
theorem trod_fits (K : Kids P (· < P.types.size)) : ∀ (n : Nat) (t : TypeId) (es : List Sh), t < P.types.size → shapes P n t = some es → ∀ (fuel : Nat) (cs : List Value) (x : DataW H × List MemPlace),
    DataW.trod enc P w base spare held fuel t cs = some x → (x.1.weights P t).all (· ≤ reachBytes) = true → es.length = cs.length ∧ ∃ pcs, Fits es pcs ∧ PReps (there w) w pcs cs
  | 0, _, _, _, h, _, _, _, _, _ => by cases h
  | n + 1, t, es, ht, h, fuel, cs, x, hx, hwt => by
    unfold shapes at h
    split at h
    · next hu =>
      cases h
      obtain ⟨b, rfl, _⟩ := DataW.trod_bool hu hx
      exact ⟨rfl, _, Fits.single (.bool b), PReps.single (.v _ rfl)⟩
    · next k hu =>
      cases h
      obtain ⟨m, rfl, _, hw⟩ := DataW.trod_int hu hx
      exact ⟨rfl, _, Fits.single (.int k m hw), PReps.single (.v _ rfl)⟩
    · next hu =>
      cases h
      obtain ⟨s, rfl, rfl, hw⟩ := DataW.trod_string hu hx
      refine ⟨rfl, _, Fits.single (.str s ?_), PReps.single (.v _ rfl)⟩
      generalize reachBytes = k at hwt ⊢
      have h1 : s.data.toList.length ≤ k := by simpa [DataW.weights] using hwt
      have h2 : s.size = s.data.toList.length := (Array.length_toList).symm
      rw [h2]; exact h1
    · next e hu =>
      simp only [Option.bind_eq_some_iff] at h
      obtain ⟨l, hl, h⟩ := h
      split at h
      · cases h
      next hne =>
      cases h
      have hlpos : 0 < l.length := by
        cases l with
        | nil => simp at hne
        | cons _ _ => simp
      rcases DataW.trod_slice hu hx with ⟨rfl, _⟩ | ⟨a, len, cap, elems, rest, m, rfl, rfl, rfl, _, hlc, hcap, hel, hread, _, _⟩
      · refine ⟨rfl, [.sl l.length false []], Fits.single (.list _ l [] (by simp) (by simp) (by simp) (by simp)), PReps.single ?_⟩
        exact .sl l.length false [] none 0 0 (fun _ _ => .bool false) 0 0 rfl (Nat.le_refl _) (fun h => by cases h) (fun _ => rfl) (fun h => absurd rfl h) (fun i e h => by simp at h) (fun i e j c h => by simp at h)
      · unfold DataW.weights at hwt
        rw [hu] at hwt
        generalize hk : reachBytes = k at hwt
        simp only [List.all_cons, List.all_append, Bool.and_eq_true, decide_eq_true_eq, List.length_map] at hwt
        subst hk
        have one : ∀ i, i < len → ∃ e' : List PC, Fits l e' ∧ ∃ cs', w.cells? base (a.add (i * P.cellsOf e)) (P.cellsOf e) = some cs' ∧ l.length = cs'.length ∧ PReps (there w) w e' cs' := by
          intro i hi
          have := hread i hi
          rw [List.getElem?_eq_getElem (by omega)] at this
          simp only [Option.bind_eq_some_iff] at this
          obtain ⟨cs', hc', hy⟩ := this
          obtain ⟨e1, pcs, f1, r1⟩ := trod_fits K n e l (K.slice ht hu) hl m cs' _ hy (weightsAll_get hwt.2.1 _ (List.mem_map_of_mem (List.getElem_mem _)))
          exact ⟨pcs, f1, cs', hc', e1, r1⟩
        obtain ⟨ls, hls, hq⟩ := exists_list len one
        have hsz : 0 < len → P.cellsOf e = l.length ∧ a.spot = none ∧ there w a.block := by
          intro h0
          obtain ⟨e', _, cs', hc', e1, _⟩ := one 0 h0
          obtain ⟨g1, g2⟩ := cells?_get hc'
          have hs : P.cellsOf e = l.length := by omega
          have g3 := g2 0 (by omega)
          rw [List.getElem?_eq_getElem (by omega)] at g3
          simp only [Nat.zero_mul] at g3
          have g4 := cell?_some g3
          have ea : (a.add 0).add 0 = a := by simp [Addr.add]
          rw [ea] at g4
          exact ⟨hs, g4⟩
        refine ⟨rfl, [.sl l.length false ls], Fits.single (.list _ l ls (by omega) (by
          rw [hls, ← hel]
          exact Nat.le_trans (Nat.mul_le_mul_right _ (Nat.le_add_right _ _)) hwt.1) (fun e' he => ?_) (fun e' i sh c he hs hc => ?_)), PReps.single ?_⟩
        · obtain ⟨i, hi⟩ := List.getElem?_of_mem he
          exact (hq i e' hi).1.1
        · obtain ⟨i', hi⟩ := List.getElem?_of_mem he
          exact (hq i' e' hi).1.2 i sh c hs hc
        · refine .sl l.length false ls (some a) len cap (fun i j => (w.cell? ⟨a.block, a.off + i * l.length + j, none⟩).getD (.bool false)) a.block a.off hls.symm hlc (fun h => by cases h) (fun h => by cases h) (fun hne => ?_) (fun i e' he => ?_) (fun i e' j c he hc => ?_)
          · have : 0 < len := by
              cases ls with
              | nil => exact absurd rfl hne
              | cons _ _ => simp at hls; omega
            obtain ⟨_, h2, h3⟩ := hsz this
            refine ⟨?_, h3⟩
            obtain ⟨b, o, s⟩ := a
            simp only at h2
            subst h2
            rfl
          · have hi : i < len := by
              rw [← hls]
              rcases Nat.lt_or_ge i ls.length with h | h
              · exact h
              · rw [List.getElem?_eq_none h] at he; cases he
            obtain ⟨hs, h2, h3⟩ := hsz (by omega)
            obtain ⟨f1, cs', hc', e1, r1⟩ := hq i e' he
            refine ⟨f1.1, fun j hj => ?_⟩
            obtain ⟨g1, g2⟩ := cells?_get hc'
            have g3 := g2 j (by omega)
            obtain ⟨b, o, s⟩ := a
            simp only at h2
            subst h2
            rw [add_plain, add_plain, hs] at g3
            rw [g3, List.getElem?_eq_getElem (by omega)]
            rfl
          · have hi : i < len := by
              rw [← hls]
              rcases Nat.lt_or_ge i ls.length with h | h
              · exact h
              · rw [List.getElem?_eq_none h] at he; cases he
            obtain ⟨hs, h2, h3⟩ := hsz (by omega)
            obtain ⟨f1, cs', hc', e1, r1⟩ := hq i e' he
            have hj : j < l.length := by
              rw [← f1.1]
              rcases Nat.lt_or_ge j e'.length with h | h
              · exact h
              · rw [List.getElem?_eq_none h] at hc; cases hc
            obtain ⟨g1, g2⟩ := cells?_get hc'
            have g3 := g2 j (by omega)
            obtain ⟨b, o, s⟩ := a
            simp only at h2
            subst h2
            rw [add_plain, add_plain, hs, List.getElem?_eq_getElem (by omega)] at g3
            refine r1.2 j c _ hc ?_
            rw [g3]
            exact List.getElem?_eq_getElem (by omega)
    · next fs hu =>
      simp only [Option.map_eq_some_iff] at h
      obtain ⟨ess, hess, rfl⟩ := h
      obtain ⟨xs, m, rfl, rfl, hlen, hxs, hf⟩ := DataW.trod_struct hu hx
      simp only [DataW.weights, hu] at hwt
      obtain ⟨k1, k2, k3⟩ := K.struct ht hu
      have hle : ess.length = fs.toList.length := mapM_some_length hess
      have each : ∀ (i : Nat) (f : Field) (es' : List Sh), fs.toList[i]? = some f → ess[i]? = some es' → shapes P n f.type = some es' ∧ es'.length = ((cs.drop f.offset).take (P.cellsOf f.type)).length ∧ ∃ pcs, Fits es' pcs ∧ PReps (there w) w pcs ((cs.drop f.offset).take (P.cellsOf f.type)) := by
        intro i f es' hf' he'
        have hfa : fs[i]? = some f := by simpa using hf'
        have h1 := hf i f hfa
        have hi : i < xs.length := by
          rw [hxs]
          rcases Nat.lt_or_ge i fs.size with hl | hl
          · exact hl
          · rw [Array.getElem?_eq_none hl] at hfa; cases hfa
        rw [List.getElem?_eq_getElem hi] at h1
        have h2 := mapM_some_get hess i f hf'
        rw [he'] at h2
        exact ⟨h2, trod_fits K n f.type es' (k1 f (List.mem_of_getElem? hf')) h2 m _ _ h1 (weightsEach_get hwt i f.type _ (by rw [List.getElem?_map, hf']; rfl) (by rw [List.getElem?_map, List.getElem?_eq_getElem hi]; rfl))⟩
      have lens : ∀ (i : Nat) (f : Field) (es' : List Sh), fs.toList[i]? = some f → ess[i]? = some es' → P.cellsOf f.type = es'.length := by
        intro i f es' hf' he'
        obtain ⟨_, e1, _⟩ := each i f es' hf' he'
        rw [e1, List.length_take, List.length_drop]
        have hoff := k3 i f hf'
        have hsum : ((fs.toList.take i).map fun f => P.cellsOf f.type).sum + P.cellsOf f.type ≤ (fs.toList.map fun f => P.cellsOf f.type).sum := by
          have hi : i < fs.toList.length := by
            rcases Nat.lt_or_ge i fs.toList.length with hl | hl
            · exact hl
            · rw [List.getElem?_eq_none hl] at hf'; cases hf'
          have e2 : fs.toList = fs.toList.take i ++ f :: fs.toList.drop (i + 1) := by
            have : fs.toList[i] = f := by rw [List.getElem?_eq_getElem hi] at hf'; exact Option.some.inj hf'
            rw [← this, ← List.drop_eq_getElem_cons hi, List.take_append_drop]
          conv => rhs; rw [e2]
          simp only [List.map_append, List.map_cons, List.sum_append, List.sum_cons]
          omega
        rw [← hoff, ← k2, ← hlen] at hsum
        omega
      let L : List (Nat × List Sh) := fs.toList.zipWith (fun f es' => (f.offset, es')) ess
      have hL2 : L.map (·.2) = ess := by
        apply List.ext_getElem?
        intro i
        simp only [L, List.getElem?_map, List.getElem?_zipWith]
        rcases Nat.lt_or_ge i ess.length with hl | hl
        · rw [List.getElem?_eq_getElem hl, List.getElem?_eq_getElem (by omega : i < fs.toList.length)]; rfl
        · rw [List.getElem?_eq_none hl, List.getElem?_eq_none (by omega : fs.toList.length ≤ i)]; rfl
      have hgetL : ∀ (j : Nat) (p : Nat × List Sh), L[j]? = some p → ∃ f, fs.toList[j]? = some f ∧ ess[j]? = some p.2 ∧ p.1 = f.offset := by
        intro j p hp
        simp only [L, List.getElem?_zipWith] at hp
        split at hp
        · next f es' h1 h2 => cases hp; exact ⟨f, h1, h2, rfl⟩
        · cases hp
      have hsumt : ∀ j, ((L.take j).map fun q => q.2.length).sum = ((fs.toList.take j).map fun f => P.cellsOf f.type).sum := by
        intro j
        have e1 : (L.take j).map (fun q => q.2.length) = (ess.take j).map List.length := by
          rw [← hL2, List.map_take, ← List.map_take, ← List.map_take, List.map_map]
          rfl
        rw [e1]
        symm
        refine sum_map_len _ _ _ (by simp [hle]) fun i f es' h1 h2 => ?_
        rw [List.getElem?_take] at h1 h2
        split at h1
        · next hi => rw [if_pos hi] at h2; exact lens i f es' h1 h2
        · cases h1
      obtain ⟨pcs, f1, r1⟩ := cat_fits (R := there w) (w := w) (cs := cs) L 0 (fun j p hj => by
        obtain ⟨f, h1, h2, h3⟩ := hgetL j p hj
        rw [h3, k3 j f h1, hsumt j, Nat.zero_add]) (fun p hm => by
        obtain ⟨j, hj⟩ := List.getElem?_of_mem hm
        obtain ⟨f, h1, h2, h3⟩ := hgetL j p hj
        obtain ⟨_, _, h4⟩ := each j f p.2 h1 h2
        rw [lens j f p.2 h1 h2, ← h3] at h4
        exact h4)
      have htot : (L.map fun q => q.2.length).sum = cs.length := by
        have := hsumt fs.toList.length
        have hLl : L.length = fs.toList.length := by simp [L, hle]
        rw [List.take_of_length_le (by omega), List.take_of_length_le (Nat.le_refl _)] at this
        rw [this, hlen, k2]
      rw [hL2] at f1
      rw [htot, List.drop_zero, List.take_of_length_le (Nat.le_refl _)] at r1
      exact ⟨by rw [← f1.1, r1.1], pcs, f1, r1⟩
    · next m e hu =>
      simp only [Option.map_eq_some_iff] at h
      obtain ⟨l, hl, rfl⟩ := h
      obtain ⟨xs, fu, rfl, rfl, hlen, hxs, hf⟩ := DataW.trod_array hu hx
      simp only [DataW.weights, hu] at hwt
      obtain ⟨k1, k2⟩ := K.array ht hu
      have each : ∀ i, i < m → l.length = ((cs.drop (i * P.cellsOf e)).take (P.cellsOf e)).length ∧ ∃ pcs, Fits l pcs ∧ PReps (there w) w pcs ((cs.drop (i * P.cellsOf e)).take (P.cellsOf e)) := by
        intro i hi
        have h1 := hf i hi
        rw [List.getElem?_eq_getElem (by omega)] at h1
        exact trod_fits K n e l k1 hl fu _ _ h1 (weightsAll_get hwt _ (List.mem_map_of_mem (List.getElem_mem _)))
      have lens : 0 < m → P.cellsOf e = l.length := by
        intro h0
        obtain ⟨e1, _⟩ := each 0 h0
        rw [e1, List.length_take, List.length_drop, Nat.zero_mul, Nat.sub_zero]
        rw [hlen, k2]
        have : P.cellsOf e ≤ m * P.cellsOf e := Nat.le_mul_of_pos_left _ h0
        omega
      let L : List (Nat × List Sh) := (List.range m).map fun i => (i * l.length, l)
      have hL2 : L.map (·.2) = List.replicate m l := by
        simp only [L, List.map_map]
        apply List.ext_getElem?
        intro i
        simp only [List.getElem?_map, List.getElem?_replicate]
        rcases Nat.lt_or_ge i m with hi | hi
        · rw [List.getElem?_range hi, if_pos hi]; rfl
        · rw [List.getElem?_eq_none (by simpa using hi), if_neg (by omega)]; rfl
      have hsum : ∀ j, j ≤ m → ((L.take j).map fun q => q.2.length).sum = j * l.length := by
        intro j hj
        have e1 : (L.take j).map (fun q => q.2.length) = List.replicate j l.length := by
          have : L.map (fun q => q.2.length) = List.replicate m l.length := by
            have := congrArg (List.map List.length) hL2
            rw [List.map_map, List.map_replicate] at this
            exact this
          have e2 : (L.take j).map (fun q => q.2.length) = (L.map fun q => q.2.length).take j := List.map_take.symm ▸ rfl
          rw [e2, this, List.take_replicate, Nat.min_eq_left hj]
        rw [e1, List.sum_replicate_nat]
      have hLl : L.length = m := by simp [L]
      obtain ⟨pcs, f1, r1⟩ := cat_fits (R := there w) (w := w) (cs := cs) L 0 (fun j p hj => by
        have hjm : j < m := by
          rw [← hLl]
          rcases Nat.lt_or_ge j L.length with h | h
          · exact h
          · rw [List.getElem?_eq_none h] at hj; cases hj
        rw [hsum j (by omega)]
        simp only [L, List.getElem?_map, List.getElem?_range hjm, Option.map_some, Option.some.injEq] at hj
        subst hj
        simp) (fun p hm => by
        obtain ⟨j, hj⟩ := List.getElem?_of_mem hm
        have hjm : j < m := by
          rw [← hLl]
          rcases Nat.lt_or_ge j L.length with h | h
          · exact h
          · rw [List.getElem?_eq_none h] at hj; cases hj
        simp only [L, List.getElem?_map, List.getElem?_range hjm, Option.map_some, Option.some.injEq] at hj
        subst hj
        obtain ⟨_, h4⟩ := each j hjm
        rw [lens (by omega)] at h4
        exact h4)
      have htot : (L.map fun q => q.2.length).sum = cs.length := by
        have := hsum m (Nat.le_refl _)
        rw [List.take_of_length_le (by omega)] at this
        rw [this, hlen, k2]
        rcases Nat.eq_zero_or_pos m with h0 | h0
        · subst h0; simp
        · rw [lens h0]
      rw [hL2] at f1
      rw [htot, List.drop_zero, List.take_of_length_le (Nat.le_refl _)] at r1
      exact ⟨by rw [← f1.1, r1.1], pcs, f1, r1⟩
    · cases h
end
end Go.Ev
