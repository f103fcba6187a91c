/-
  A node that is read: its cells.
  Lists of numbers as the evaluator holds them; words for proofs over trees.
  node.Reach and the reference's: the same.
  warp.Reach and the reference's: the same.
  NodeReads: the law answers true at every node that is read.
-/
import Derived.Test.YtaibdhmiglacdaaGreatDoorRd10
import Derived.Test.YtaibdhmiglacdaaGreatDoorRd11
import Derived.Test.YtaibdhmiglacdaaGreatDoorRd9

namespace Go.Ev
open Go Go.Proofs
set_option maxRecDepth 100000

def shI : Sh := .int .i64
/-- A list of s integers an element, of so many bytes. -/
structure LOK (bs s : Nat) (l : List (List PC)) : Prop where
  len : l.length ≤ maxLen
  bytes : l.length * bs ≤ reachBytes
  els : ∀ e ∈ l, e.length = s ∧ ∀ (i : Nat) (c : PC), e[i]? = some c → ∃ n, c = .v (.int .i64 n) ∧ (Lit.int .i64 n).wf = true
theorem fit_int {c : PC} (h : Fit shI c) : ∃ n, c = iP n ∧ (Lit.int .i64 n).wf = true := by
  unfold shI at h; cases h with | int k n hw => exact ⟨n, rfl, hw⟩
theorem fit_bool {c : PC} (h : Fit .bool c) : ∃ b, c = bP b := by cases h with | bool b => exact ⟨b, rfl⟩
theorem fit_str {c : PC} (h : Fit .str c) : ∃ s, c = sP s ∧ s.size ≤ reachBytes := by cases h with | str s hs => exact ⟨s, rfl, hs⟩
theorem fit_list {c : PC} {bs s : Nat} (h : Fit (.list bs (List.replicate s shI)) c) : ∃ l, c = .sl s false l ∧ LOK bs s l := by
  generalize he : Sh.list bs (List.replicate s shI) = sh at h
  cases h with
  | list bs' es l h1 h2 h3 h4 =>
    cases he
    refine ⟨l, by simp, h1, h2, fun e hm => ⟨by simpa using h3 e hm, fun i c hc => ?_⟩⟩
    have hi : i < s := by
      have := h3 e hm
      simp at this
      rcases Nat.lt_or_ge i e.length with hl | hl
      · omega
      · rw [List.getElem?_eq_none hl] at hc; cases hc
    exact fit_int (h4 e i shI c hm (by rw [List.getElem?_replicate, if_pos hi]) hc)
  | _ => cases he
theorem decs_ints : ∀ (s : Nat) (e : List PC), e.length = s → (∀ (i : Nat) (c : PC), e[i]? = some c → ∃ n, c = .v (.int .i64 n)) → ∃ t, decs (List.replicate s (.int .i64)) e = some t
  | 0, [], _, _ => ⟨(), rfl⟩
  | s + 1, c :: e, hl, h => by
    obtain ⟨n, rfl⟩ := h 0 c rfl
    obtain ⟨t, ht⟩ := decs_ints s e (by simpa using hl) fun i c hc => h (i + 1) c (by simpa using hc)
    refine ⟨(n, t), ?_⟩
    simp only [List.replicate_succ, decs]
    rw [ht]
    rfl
  | 0, _ :: _, hl, _ => by simp at hl
  | _ + 1, [], hl, _ => by simp at hl
theorem LOK.dec {bs s : Nat} {l : List (List PC)} (h : LOK bs s l) {e : List PC} (he : e ∈ l) : ∃ t, decs (kI s) (e.take s) = some t := by
  obtain ⟨h1, h2⟩ := h.els e he
  rw [List.take_of_length_le (by omega)]
  exact decs_ints s e h1 fun i c hc => (h2 i c hc).imp fun n hn => hn.1

def nodeSh : List Sh := [shI, shI, shI, .str, .bool, .bool, .bool, shI, shI, shI, shI, .list 8 (List.replicate 1 shI), shI, shI, shI, shI, shI, shI, shI, shI, shI, .list 32 (List.replicate 4 shI), shI, shI, shI, shI, shI, .list 8 (List.replicate 1 shI), shI, .list 40 (List.replicate 5 shI), .list 56 (List.replicate 7 shI), shI, shI, shI, shI, .str, shI, shI, shI, shI, shI, shI, .list 16 (List.replicate 2 shI)]
theorem nodeSh_ok : shapes Tryz.prog 8 38 = some nodeSh := by kernel_rfl
/-- What is known of a node's fields. -/
structure NodeOK (a : NodeS) : Prop where
  id : (Lit.int .i64 a.id).wf = true
  kind : (Lit.int .i64 a.kind).wf = true
  parent : (Lit.int .i64 a.parent).wf = true
  name : a.name.size ≤ reachBytes
  opacity : (Lit.int .i64 a.opacity).wf = true
  mode : (Lit.int .i64 a.mode).wf = true
  mw : (Lit.int .i64 a.mw).wf = true
  mh : (Lit.int .i64 a.mh).wf = true
  mv : LOK 8 1 a.mv
  mvn : a.mvn = false
  ta : (Lit.int .i64 a.ta).wf = true
  tb : (Lit.int .i64 a.tb).wf = true
  tc : (Lit.int .i64 a.tc).wf = true
  td : (Lit.int .i64 a.td).wf = true
  te : (Lit.int .i64 a.te).wf = true
  tf : (Lit.int .i64 a.tf).wf = true
  kernel : (Lit.int .i64 a.kernel).wf = true
  iw : (Lit.int .i64 a.iw).wf = true
  ih : (Lit.int .i64 a.ih).wf = true
  pix : LOK 32 4 a.pix
  pixn : a.pixn = false
  cr : (Lit.int .i64 a.cr).wf = true
  cg : (Lit.int .i64 a.cg).wf = true
  cb : (Lit.int .i64 a.cb).wf = true
  ca : (Lit.int .i64 a.ca).wf = true
  sub : (Lit.int .i64 a.sub).wf = true
  par : LOK 8 1 a.par
  parn : a.parn = false
  spread : (Lit.int .i64 a.spread).wf = true
  stops : LOK 40 5 a.stops
  stopn : a.stopn = false
  segs : LOK 56 7 a.segs
  segn : a.segn = false
  rule : (Lit.int .i64 a.rule).wf = true
  width : (Lit.int .i64 a.width).wf = true
  join : (Lit.int .i64 a.join).wf = true
  cap : (Lit.int .i64 a.cap).wf = true
  text : a.text.size ≤ reachBytes
  size : (Lit.int .i64 a.size).wf = true
  wrap : (Lit.int .i64 a.wrap).wf = true
  ref : (Lit.int .i64 a.ref).wf = true
  wc : (Lit.int .i64 a.wc).wf = true
  wr : (Lit.int .i64 a.wr).wf = true
  ws : (Lit.int .i64 a.ws).wf = true
  wd : LOK 16 2 a.wd
  wdn : a.wdn = false
set_option maxHeartbeats 1000000 in
theorem node_fits {l : List PC} {es : List Sh} (h : Fits (nodeSh ++ es) l) : ∃ a tail, l = NodeS.cells a ++ tail ∧ Fits es tail ∧ NodeOK a := by
  unfold nodeSh at h
  obtain ⟨c0, r0, e0, f0, h1⟩ := Fits.uncons (sh := shI) h
  clear h
  obtain ⟨c1, r1, e1, f1, h2⟩ := Fits.uncons (sh := shI) h1
  clear h1
  obtain ⟨c2, r2, e2, f2, h3⟩ := Fits.uncons (sh := shI) h2
  clear h2
  obtain ⟨c3, r3, e3, f3, h4⟩ := Fits.uncons (sh := Sh.str) h3
  clear h3
  obtain ⟨c4, r4, e4, f4, h5⟩ := Fits.uncons (sh := Sh.bool) h4
  clear h4
  obtain ⟨c5, r5, e5, f5, h6⟩ := Fits.uncons (sh := Sh.bool) h5
  clear h5
  obtain ⟨c6, r6, e6, f6, h7⟩ := Fits.uncons (sh := Sh.bool) h6
  clear h6
  obtain ⟨c7, r7, e7, f7, h8⟩ := Fits.uncons (sh := shI) h7
  clear h7
  obtain ⟨c8, r8, e8, f8, h9⟩ := Fits.uncons (sh := shI) h8
  clear h8
  obtain ⟨c9, r9, e9, f9, h10⟩ := Fits.uncons (sh := shI) h9
  clear h9
  obtain ⟨c10, r10, e10, f10, h11⟩ := Fits.uncons (sh := shI) h10
  clear h10
  obtain ⟨c11, r11, e11, f11, h12⟩ := Fits.uncons (sh := Sh.list 8 (List.replicate 1 shI)) h11
  clear h11
  obtain ⟨c12, r12, e12, f12, h13⟩ := Fits.uncons (sh := shI) h12
  clear h12
  obtain ⟨c13, r13, e13, f13, h14⟩ := Fits.uncons (sh := shI) h13
  clear h13
  obtain ⟨c14, r14, e14, f14, h15⟩ := Fits.uncons (sh := shI) h14
  clear h14
  obtain ⟨c15, r15, e15, f15, h16⟩ := Fits.uncons (sh := shI) h15
  clear h15
  obtain ⟨c16, r16, e16, f16, h17⟩ := Fits.uncons (sh := shI) h16
  clear h16
  obtain ⟨c17, r17, e17, f17, h18⟩ := Fits.uncons (sh := shI) h17
  clear h17
  obtain ⟨c18, r18, e18, f18, h19⟩ := Fits.uncons (sh := shI) h18
  clear h18
  obtain ⟨c19, r19, e19, f19, h20⟩ := Fits.uncons (sh := shI) h19
  clear h19
  obtain ⟨c20, r20, e20, f20, h21⟩ := Fits.uncons (sh := shI) h20
  clear h20
  obtain ⟨c21, r21, e21, f21, h22⟩ := Fits.uncons (sh := Sh.list 32 (List.replicate 4 shI)) h21
  clear h21
  obtain ⟨c22, r22, e22, f22, h23⟩ := Fits.uncons (sh := shI) h22
  clear h22
  obtain ⟨c23, r23, e23, f23, h24⟩ := Fits.uncons (sh := shI) h23
  clear h23
  obtain ⟨c24, r24, e24, f24, h25⟩ := Fits.uncons (sh := shI) h24
  clear h24
  obtain ⟨c25, r25, e25, f25, h26⟩ := Fits.uncons (sh := shI) h25
  clear h25
  obtain ⟨c26, r26, e26, f26, h27⟩ := Fits.uncons (sh := shI) h26
  clear h26
  obtain ⟨c27, r27, e27, f27, h28⟩ := Fits.uncons (sh := Sh.list 8 (List.replicate 1 shI)) h27
  clear h27
  obtain ⟨c28, r28, e28, f28, h29⟩ := Fits.uncons (sh := shI) h28
  clear h28
  obtain ⟨c29, r29, e29, f29, h30⟩ := Fits.uncons (sh := Sh.list 40 (List.replicate 5 shI)) h29
  clear h29
  obtain ⟨c30, r30, e30, f30, h31⟩ := Fits.uncons (sh := Sh.list 56 (List.replicate 7 shI)) h30
  clear h30
  obtain ⟨c31, r31, e31, f31, h32⟩ := Fits.uncons (sh := shI) h31
  clear h31
  obtain ⟨c32, r32, e32, f32, h33⟩ := Fits.uncons (sh := shI) h32
  clear h32
  obtain ⟨c33, r33, e33, f33, h34⟩ := Fits.uncons (sh := shI) h33
  clear h33
  obtain ⟨c34, r34, e34, f34, h35⟩ := Fits.uncons (sh := shI) h34
  clear h34
  obtain ⟨c35, r35, e35, f35, h36⟩ := Fits.uncons (sh := Sh.str) h35
  clear h35
  obtain ⟨c36, r36, e36, f36, h37⟩ := Fits.uncons (sh := shI) h36
  clear h36
  obtain ⟨c37, r37, e37, f37, h38⟩ := Fits.uncons (sh := shI) h37
  clear h37
  obtain ⟨c38, r38, e38, f38, h39⟩ := Fits.uncons (sh := shI) h38
  clear h38
  obtain ⟨c39, r39, e39, f39, h40⟩ := Fits.uncons (sh := shI) h39
  clear h39
  obtain ⟨c40, r40, e40, f40, h41⟩ := Fits.uncons (sh := shI) h40
  clear h40
  obtain ⟨c41, r41, e41, f41, h42⟩ := Fits.uncons (sh := shI) h41
  clear h41
  obtain ⟨c42, r42, e42, f42, h43⟩ := Fits.uncons (sh := Sh.list 16 (List.replicate 2 shI)) h42
  clear h42
  obtain ⟨x0, rfl, w0⟩ := fit_int f0
  obtain ⟨x1, rfl, w1⟩ := fit_int f1
  obtain ⟨x2, rfl, w2⟩ := fit_int f2
  obtain ⟨x3, rfl, w3⟩ := fit_str f3
  obtain ⟨x4, rfl⟩ := fit_bool f4
  obtain ⟨x5, rfl⟩ := fit_bool f5
  obtain ⟨x6, rfl⟩ := fit_bool f6
  obtain ⟨x7, rfl, w7⟩ := fit_int f7
  obtain ⟨x8, rfl, w8⟩ := fit_int f8
  obtain ⟨x9, rfl, w9⟩ := fit_int f9
  obtain ⟨x10, rfl, w10⟩ := fit_int f10
  obtain ⟨x11, rfl, w11⟩ := fit_list f11
  obtain ⟨x12, rfl, w12⟩ := fit_int f12
  obtain ⟨x13, rfl, w13⟩ := fit_int f13
  obtain ⟨x14, rfl, w14⟩ := fit_int f14
  obtain ⟨x15, rfl, w15⟩ := fit_int f15
  obtain ⟨x16, rfl, w16⟩ := fit_int f16
  obtain ⟨x17, rfl, w17⟩ := fit_int f17
  obtain ⟨x18, rfl, w18⟩ := fit_int f18
  obtain ⟨x19, rfl, w19⟩ := fit_int f19
  obtain ⟨x20, rfl, w20⟩ := fit_int f20
  obtain ⟨x21, rfl, w21⟩ := fit_list f21
  obtain ⟨x22, rfl, w22⟩ := fit_int f22
  obtain ⟨x23, rfl, w23⟩ := fit_int f23
  obtain ⟨x24, rfl, w24⟩ := fit_int f24
  obtain ⟨x25, rfl, w25⟩ := fit_int f25
  obtain ⟨x26, rfl, w26⟩ := fit_int f26
  obtain ⟨x27, rfl, w27⟩ := fit_list f27
  obtain ⟨x28, rfl, w28⟩ := fit_int f28
  obtain ⟨x29, rfl, w29⟩ := fit_list f29
  obtain ⟨x30, rfl, w30⟩ := fit_list f30
  obtain ⟨x31, rfl, w31⟩ := fit_int f31
  obtain ⟨x32, rfl, w32⟩ := fit_int f32
  obtain ⟨x33, rfl, w33⟩ := fit_int f33
  obtain ⟨x34, rfl, w34⟩ := fit_int f34
  obtain ⟨x35, rfl, w35⟩ := fit_str f35
  obtain ⟨x36, rfl, w36⟩ := fit_int f36
  obtain ⟨x37, rfl, w37⟩ := fit_int f37
  obtain ⟨x38, rfl, w38⟩ := fit_int f38
  obtain ⟨x39, rfl, w39⟩ := fit_int f39
  obtain ⟨x40, rfl, w40⟩ := fit_int f40
  obtain ⟨x41, rfl, w41⟩ := fit_int f41
  obtain ⟨x42, rfl, w42⟩ := fit_list f42
  subst e42
  subst e41
  subst e40
  subst e39
  subst e38
  subst e37
  subst e36
  subst e35
  subst e34
  subst e33
  subst e32
  subst e31
  subst e30
  subst e29
  subst e28
  subst e27
  subst e26
  subst e25
  subst e24
  subst e23
  subst e22
  subst e21
  subst e20
  subst e19
  subst e18
  subst e17
  subst e16
  subst e15
  subst e14
  subst e13
  subst e12
  subst e11
  subst e10
  subst e9
  subst e8
  subst e7
  subst e6
  subst e5
  subst e4
  subst e3
  subst e2
  subst e1
  subst e0
  exact ⟨⟨x0, x1, x2, x3, x4, x5, x6, x7, x8, x9, x10, false, x11, x12, x13, x14, x15, x16, x17, x18, x19, x20, false, x21, x22, x23, x24, x25, x26, false, x27, x28, false, x29, false, x30, x31, x32, x33, x34, x35, x36, x37, x38, x39, x40, x41, false, x42⟩, r42, rfl, h43, ⟨w0, w1, w2, w3, w7, w8, w9, w10, w11, rfl, w12, w13, w14, w15, w16, w17, w18, w19, w20, w21, rfl, w22, w23, w24, w25, w26, w27, rfl, w28, w29, rfl, w30, rfl, w31, w32, w33, w34, w35, w36, w37, w38, w39, w40, w41, w42, rfl⟩⟩
end Go.Ev

namespace Go.Ev
open Go Go.Proofs
set_option maxRecDepth 100000

def ints1 (ns : List Int) : List (List PC) := ns.map fun n => [iP n]
def pts (ds : List (Int × Int)) : List (List PC) := ds.map fun d => [iP d.1, iP d.2]
def wf64 (n : Int) : Prop := (Lit.int .i64 n).wf = true
theorem wf64_bd {n : Int} (h : wf64 n) : -9223372036854775808 ≤ n ∧ n ≤ 9223372036854775807 := bounds_i64 h
theorem LOK.tail {bs s : Nat} {e : List PC} {l : List (List PC)} (h : LOK bs s (e :: l)) : LOK bs s l :=
  ⟨by have := h.len; simp only [List.length_cons] at this; omega, Nat.le_trans (Nat.mul_le_mul_right _ (by simp)) h.bytes, fun x hx => h.els x (List.mem_cons_of_mem _ hx)⟩
theorem LOK.ints {bs : Nat} : ∀ {l : List (List PC)}, LOK bs 1 l → ∃ ns, l = ints1 ns ∧ ∀ n ∈ ns, wf64 n
  | [], _ => ⟨[], rfl, fun n hn => by cases hn⟩
  | e :: l, h => by
    obtain ⟨ns, rfl, hns⟩ := LOK.ints h.tail
    obtain ⟨h1, h2⟩ := h.els e (by simp)
    match e, h1 with
    | [c], _ =>
      obtain ⟨n, rfl, hn⟩ := h2 0 c rfl
      refine ⟨n :: ns, rfl, fun m hm => ?_⟩
      rcases List.mem_cons.1 hm with rfl | hm
      · exact hn
      · exact hns m hm
theorem LOK.points {bs : Nat} : ∀ {l : List (List PC)}, LOK bs 2 l → ∃ ds, l = pts ds ∧ ∀ d ∈ ds, wf64 d.1 ∧ wf64 d.2
  | [], _ => ⟨[], rfl, fun n hn => by cases hn⟩
  | e :: l, h => by
    obtain ⟨ns, rfl, hns⟩ := LOK.points h.tail
    obtain ⟨h1, h2⟩ := h.els e (by simp)
    match e, h1 with
    | [c, c'], _ =>
      obtain ⟨n, rfl, hn⟩ := h2 0 c rfl
      obtain ⟨m, rfl, hm⟩ := h2 1 c' rfl
      refine ⟨(n, m) :: ns, rfl, fun d hd => ?_⟩
      rcases List.mem_cons.1 hd with rfl | hd
      · exact ⟨hn, hm⟩
      · exact hns d hd
theorem ints1_get (ns : List Int) (i : Nat) : nthR (ints1 ns) i = (ns[i]?).map fun n => [iP n] := by rw [nthR_eq]; simp [ints1]
theorem pts_get (ns : List (Int × Int)) (i : Nat) : nthR (pts ns) i = (ns[i]?).map fun d => [iP d.1, iP d.2] := by rw [nthR_eq]; simp [pts]
theorem ints1_len (ns : List Int) : (ints1 ns).length = ns.length := by simp [ints1]
theorem pts_len (ns : List (Int × Int)) : (pts ns).length = ns.length := by simp [pts]
theorem dec1 (n : Int) : decs [.int .i64] [iP n] = some (n, ()) := rfl
theorem dec1' (n : Int) : decs [.int .i64] (takeR (dropR [iP n] 0) 1) = some (n, ()) := rfl
theorem dec2 (n m : Int) : decs [.int .i64, .int .i64] (takeR (dropR [iP n, iP m] 0) 2) = some (n, m, ()) := rfl
theorem dec2a (n m : Int) : decs [.int .i64] (takeR (dropR [iP n, iP m] 0) 1) = some (n, ()) := rfl
theorem dec2b (n m : Int) : decs [.int .i64] (takeR (dropR [iP n, iP m] 1) 1) = some (m, ()) := rfl
theorem wrap64 {n : Int} (h1 : -9223372036854775808 ≤ n) (h2 : n ≤ 9223372036854775807) : IntKind.i64.wrap n = n := wrap_id (by omega) (by omega)
theorem wrapR64 {n : Int} (h1 : -9223372036854775808 ≤ n) (h2 : n ≤ 9223372036854775807) : wrapR .i64 n = n := by rw [wrapR_eq]; exact wrap64 h1 h2
theorem leI_iff {a b : Int} : (leI a b = true) ↔ a ≤ b := by rw [leI_eq, decide_eq_true_eq]
theorem ltI_iff {a b : Int} : (ltI a b = true) ↔ a < b := by rw [ltI_eq, decide_eq_true_eq]
theorem eqI_iff {a b : Int} : (eqI a b = true) ↔ a = b := by rw [eqI_eq, beq_iff_eq]
end Go.Ev

namespace Go.Ev
open Go Go.Proofs
set_option maxRecDepth 100000
set_option linter.unusedSimpArgs false

theorem w01 : wrapR IntKind.i64 (addI 0 1) = 1 := by kernel_rfl
theorem w12 : wrapR IntKind.i64 (addI 1 1) = 2 := by kernel_rfl
theorem loop72_1 (n lo hi : Int) : loopT L72_0_step (0, (1, ([[iP n]], (1, (0, ([[iP lo, iP hi]], ())))))) = some (if n < lo ∨ hi < n then .inl (2, ()) else .inr (.inl (0, ()))) := by
  rw [loopT_eq]
  simp only [L72_0_step, Tr.val_br, Tr.val_opt, nthR_eq]
  simp [leI_iff, ltI_iff, inR_eq, dec1', dec2a, dec2b]
  by_cases h1 : n < lo
  · simp [h1]
  · by_cases h2 : hi < n
    · simp [h1, h2]
    · simp only [h1, h2, if_false, Option.bind_some, or_self]
      rw [w01, loopT_eq]
      simp only [L72_0_step, Tr.val_br, Tr.val_opt, nthR_eq]
      simp [leI_iff, ltI_iff, inR_eq, dec1', dec2a, dec2b]
theorem loop72_2 (n m lo hi lo2 hi2 : Int) : loopT L72_0_step (0, (2, ([[iP n], [iP m]], (2, (0, ([[iP lo, iP hi], [iP lo2, iP hi2]], ())))))) = some (if (n < lo ∨ hi < n) ∨ (m < lo2 ∨ hi2 < m) then .inl (2, ()) else .inr (.inl (0, ()))) := by
  rw [loopT_eq]
  simp only [L72_0_step, Tr.val_br, Tr.val_opt, nthR_eq]
  simp [leI_iff, ltI_iff, inR_eq, dec1', dec2a, dec2b]
  by_cases h1 : n < lo
  · simp [h1]
  · by_cases h2 : hi < n
    · simp [h1, h2]
    · simp only [h1, h2, if_false, Option.bind_some, or_self, false_or]
      rw [w01, loopT_eq]
      simp only [L72_0_step, Tr.val_br, Tr.val_opt, nthR_eq]
      simp [leI_iff, ltI_iff, inR_eq, dec1', dec2a, dec2b]
      by_cases h3 : m < lo2
      · simp [h3]
      · by_cases h4 : hi2 < m
        · simp [h3, h4]
        · simp only [h3, h4, if_false, Option.bind_some, or_self]
          rw [w12, loopT_eq]
          simp only [L72_0_step, Tr.val_br, Tr.val_opt, nthR_eq]
          simp [leI_iff, ltI_iff, inR_eq, dec1', dec2a, dec2b]
theorem loop72_0 : loopT L72_0_step (0, (0, ([], (0, (0, ([], ())))))) = some (.inr (.inl (0, ()))) := by
  rw [loopT_eq]
  simp only [L72_0_step, Tr.val_br, Tr.val_opt, nthR_eq]
  simp [ltI_iff]
/-- The bounds of a filter's parameters. -/
noncomputable def rows98 (s : Int) : List (List PC) := (Tr.get (([] : List (List PC)), ()) (g98 (s, ()))).1
theorem rows_1 : rows98 1 = [[iP 0, iP 16]] := by kernel_rfl
theorem rows_2 : rows98 2 = [[iP 0, iP 7]] := by kernel_rfl
theorem rows_3 : rows98 3 = [[iP 0, iP 16], [iP 0, iP 262140]] := by kernel_rfl
theorem rows_4 : rows98 4 = [[iP 0, iP 4]] := by kernel_rfl
theorem rows_5 : rows98 5 = [] := by kernel_rfl
theorem rows_6 : rows98 6 = [] := by kernel_rfl
theorem rows_7 : rows98 7 = [[iP 0, iP 16]] := by kernel_rfl
theorem rows_8 : rows98 8 = [[iP 0, iP 16]] := by kernel_rfl
theorem rows_9 : rows98 9 = [[iP (-16), iP 16], [iP (-16), iP 16]] := by kernel_rfl
theorem rows_10 : rows98 10 = [[iP 1, iP 16]] := by kernel_rfl
noncomputable def cnt101 (s : Int) : Int := (Tr.get ((0 : Int), ()) (g101 (s, ()))).1
/-- How many parameters a filter has. -/
def cntF (s : Int) : Nat := if s = 5 ∨ s = 6 then 0 else if s = 3 ∨ s = 9 then 2 else 1
theorem ten {s : Int} (h1 : 1 ≤ s) (h2 : s ≤ 10) : s = 1 ∨ s = 2 ∨ s = 3 ∨ s = 4 ∨ s = 5 ∨ s = 6 ∨ s = 7 ∨ s = 8 ∨ s = 9 ∨ s = 10 := by omega
theorem cnt_ok {s : Int} (h1 : 1 ≤ s) (h2 : s ≤ 10) : cnt101 s = (cntF s : Nat) ∧ (rows98 s).length = cntF s := by
  rcases ten h1 h2 with rfl | rfl | rfl | rfl | rfl | rfl | rfl | rfl | rfl | rfl <;> exact ⟨by kernel_rfl, by kernel_rfl⟩
theorem g72_unfold (s : Int) (l : List (List PC)) : (g72 (s, (l, ()))).val = if s < 1 ∨ 10 < s then some (8, ()) else if (l.length : Int) ≠ (rows98 s).length then some (1, ()) else
    (loopT L72_0_step (0, ((rows98 s).length, (l, (Int.ofNat l.length, (0, (rows98 s, ()))))))).bind fun v => match v with | .inl v => some (v.1, ()) | .inr (.inl _) => some (0, ()) | .inr (.inr _) => none := by
  unfold g72
  simp only [Tr.val_br, Tr.val_ret, Tr.val_opt]
  have e : ∀ a b : Bool, (cond a true b = true) ↔ (a = true ∨ b = true) := fun a b => by cases a <;> simp
  simp only [e, ltI_iff, Bool.not_eq_true', ← Bool.not_eq_true, eqI_iff]
  rw [show (Tr.get (([] : List (List PC)), ()) (g98 (s, ()))).1 = rows98 s from rfl]
  split
  · rfl
  · simp only [Int.ofNat_eq_natCast]
    split
    · rfl
    · refine congrArg (Option.bind _) (funext fun v => ?_)
      cases v with
      | inl v => rfl
      | inr v => cases v with
        | inl v => rfl
        | inr v => rfl
theorem g74_out {s : Int} (l : List (List PC)) (h : ¬ (1 ≤ s ∧ s ≤ 10)) : (g74 (s, (l, ()))).val = some (8, ()) := by
  unfold g74
  rw [Tr.val_br, if_pos]
  · rfl
  · have e : ∀ a b : Bool, (Bool.not (cond a b false) = true) ↔ ¬ (a = true ∧ b = true) := fun a b => by cases a <;> cases b <;> simp
    rw [e, leI_iff, leI_iff]; exact h
theorem g74_len {s : Int} (l : List (List PC)) (h : 1 ≤ s ∧ s ≤ 10) (hl : (l.length : Int) ≠ cnt101 s) : (g74 (s, (l, ()))).val = some (1, ()) := by
  unfold g74
  rw [Tr.val_br, if_neg, Tr.val_br, if_pos]
  · rfl
  · rw [Bool.not_eq_true', ← Bool.not_eq_true, eqI_iff]; exact hl
  · have e : ∀ a b : Bool, (Bool.not (cond a b false) = true) ↔ ¬ (a = true ∧ b = true) := fun a b => by cases a <;> cases b <;> simp
    rw [e, leI_iff, leI_iff]; exact fun hh => hh h
def ck1 (lo hi n : Int) : Option (Int × Unit) := cond (!(cond (leI lo n) (leI n hi) false)) (some (2, ())) (some (0, ()))
def ck2 (lo hi n lo2 hi2 m : Int) : Option (Int × Unit) := cond (cond (leI lo n) (leI n hi) false) (ck1 lo2 hi2 m) (some (2, ()))
theorem ck1_eq (lo hi n : Int) : ck1 lo hi n = some (if n < lo ∨ hi < n then 2 else 0, ()) := by
  unfold ck1
  cases h1 : leI lo n <;> cases h2 : leI n hi <;> simp only [leI_eq, decide_eq_true_eq, decide_eq_false_iff_not] at h1 h2 <;> simp <;> omega
theorem ck2_eq (lo hi n lo2 hi2 m : Int) : ck2 lo hi n lo2 hi2 m = some (if (n < lo ∨ hi < n) ∨ (m < lo2 ∨ hi2 < m) then 2 else 0, ()) := by
  unfold ck2
  rw [ck1_eq]
  cases h1 : leI lo n <;> cases h2 : leI n hi <;> simp only [leI_eq, decide_eq_true_eq, decide_eq_false_iff_not] at h1 h2 <;> simp <;> (try omega)
theorem g74_1 (n : Int) : (g74 (1, ([[iP n]], ()))).val = ck1 0 16 n := by kernel_rfl
theorem g74_2 (n : Int) : (g74 (2, ([[iP n]], ()))).val = ck1 0 7 n := by kernel_rfl
theorem g74_3 (n m : Int) : (g74 (3, ([[iP n], [iP m]], ()))).val = ck2 0 16 n 0 262140 m := by kernel_rfl
theorem g74_4 (n : Int) : (g74 (4, ([[iP n]], ()))).val = ck1 0 4 n := by kernel_rfl
theorem g74_5 : (g74 (5, ([], ()))).val = some (0, ()) := by kernel_rfl
theorem g74_6 : (g74 (6, ([], ()))).val = some (0, ()) := by kernel_rfl
theorem g74_7 (n : Int) : (g74 (7, ([[iP n]], ()))).val = ck1 0 16 n := by kernel_rfl
theorem g74_8 (n : Int) : (g74 (8, ([[iP n]], ()))).val = ck1 0 16 n := by kernel_rfl
theorem g74_9 (n m : Int) : (g74 (9, ([[iP n], [iP m]], ()))).val = ck2 (-16) 16 n (-16) 16 m := by kernel_rfl
theorem g74_10 (n : Int) : (g74 (10, ([[iP n]], ()))).val = ck1 1 16 n := by kernel_rfl
theorem one_of {l : List Int} (h : l.length = 1) : ∃ n, l = [n] := by match l, h with | [n], _ => exact ⟨n, rfl⟩
theorem two_of {l : List Int} (h : l.length = 2) : ∃ n m, l = [n, m] := by match l, h with | [n, m], _ => exact ⟨n, m, rfl⟩
theorem zero_of {l : List Int} (h : l.length = 0) : l = [] := List.eq_nil_of_length_eq_zero h
/-- What filter.Check comes to, behind its first questions. -/
noncomputable def rest72 (s : Int) (l : List (List PC)) : Option (Int × Unit) := (loopT L72_0_step (0, ((rows98 s).length, (l, (Int.ofNat l.length, (0, (rows98 s, ()))))))).bind fun v => match v with | .inl v => some (v.1, ()) | .inr (.inl _) => some (0, ()) | .inr (.inr _) => none
theorem rest_0 {s : Int} (h : rows98 s = []) : rest72 s [] = some (0, ()) := by
  unfold rest72; rw [h]; erw [loop72_0]; rfl
theorem rest_1 {s lo hi : Int} (h : rows98 s = [[iP lo, iP hi]]) (n : Int) : rest72 s [[iP n]] = ck1 lo hi n := by
  unfold rest72; rw [h]; erw [loop72_1]; rw [ck1_eq]; split <;> rfl
theorem rest_2 {s lo hi lo2 hi2 : Int} (h : rows98 s = [[iP lo, iP hi], [iP lo2, iP hi2]]) (n m : Int) : rest72 s [[iP n], [iP m]] = ck2 lo hi n lo2 hi2 m := by
  unfold rest72; rw [h]; erw [loop72_2]; rw [ck2_eq]; split <;> rfl
/-- filter.Check and the reference's. -/
theorem f72 (s : Int) (ns : List Int) : ∃ r, (g72 (s, (ints1 ns, ()))).val = some (r, ()) ∧ (g74 (s, (ints1 ns, ()))).val = some (r, ()) ∧ (r = 0 → (1 ≤ s ∧ s ≤ 10) ∧ ns.length = cntF s) := by
  rw [g72_unfold]
  by_cases h : 1 ≤ s ∧ s ≤ 10
  · obtain ⟨h1, h2⟩ := h
    obtain ⟨c1, c2⟩ := cnt_ok h1 h2
    rw [if_neg (by omega)]
    by_cases hl : ns.length = cntF s
    · have c3 : ((ints1 ns).length : Int) = (rows98 s).length := by rw [ints1_len, c2, hl]
      rw [if_neg (by simp [c3])]
      change ∃ r, rest72 s (ints1 ns) = some (r, ()) ∧ _
      rcases ten h1 h2 with rfl | rfl | rfl | rfl | rfl | rfl | rfl | rfl | rfl | rfl
      · obtain ⟨n, rfl⟩ := one_of (show ns.length = 1 from hl)
        exact ⟨_, (rest_1 rows_1 n).trans (ck1_eq ..), (g74_1 n).trans (ck1_eq ..), fun _ => ⟨by omega, hl⟩⟩
      · obtain ⟨n, rfl⟩ := one_of (show ns.length = 1 from hl)
        exact ⟨_, (rest_1 rows_2 n).trans (ck1_eq ..), (g74_2 n).trans (ck1_eq ..), fun _ => ⟨by omega, hl⟩⟩
      · obtain ⟨n, m, rfl⟩ := two_of (show ns.length = 2 from hl)
        exact ⟨_, (rest_2 rows_3 n m).trans (ck2_eq ..), (g74_3 n m).trans (ck2_eq ..), fun _ => ⟨by omega, hl⟩⟩
      · obtain ⟨n, rfl⟩ := one_of (show ns.length = 1 from hl)
        exact ⟨_, (rest_1 rows_4 n).trans (ck1_eq ..), (g74_4 n).trans (ck1_eq ..), fun _ => ⟨by omega, hl⟩⟩
      · obtain rfl := zero_of (show ns.length = 0 from hl)
        exact ⟨_, rest_0 rows_5, g74_5, fun _ => ⟨by omega, hl⟩⟩
      · obtain rfl := zero_of (show ns.length = 0 from hl)
        exact ⟨_, rest_0 rows_6, g74_6, fun _ => ⟨by omega, hl⟩⟩
      · obtain ⟨n, rfl⟩ := one_of (show ns.length = 1 from hl)
        exact ⟨_, (rest_1 rows_7 n).trans (ck1_eq ..), (g74_7 n).trans (ck1_eq ..), fun _ => ⟨by omega, hl⟩⟩
      · obtain ⟨n, rfl⟩ := one_of (show ns.length = 1 from hl)
        exact ⟨_, (rest_1 rows_8 n).trans (ck1_eq ..), (g74_8 n).trans (ck1_eq ..), fun _ => ⟨by omega, hl⟩⟩
      · obtain ⟨n, m, rfl⟩ := two_of (show ns.length = 2 from hl)
        exact ⟨_, (rest_2 rows_9 n m).trans (ck2_eq ..), (g74_9 n m).trans (ck2_eq ..), fun _ => ⟨by omega, hl⟩⟩
      · obtain ⟨n, rfl⟩ := one_of (show ns.length = 1 from hl)
        exact ⟨_, (rest_1 rows_10 n).trans (ck1_eq ..), (g74_10 n).trans (ck1_eq ..), fun _ => ⟨by omega, hl⟩⟩
    · have c3 : ((ints1 ns).length : Int) ≠ (rows98 s).length := by rw [ints1_len, c2]; omega
      rw [if_pos c3]
      exact ⟨1, rfl, g74_len _ ⟨h1, h2⟩ (by rw [c1, ints1_len]; omega), fun h => by omega⟩
  · rw [if_pos (by omega)]
    exact ⟨8, rfl, g74_out _ h, fun h => by omega⟩
/-- What stands behind the check. -/
noncomputable def behind (t : Tr (Int × Unit)) : Tr (Int × Unit) := match t with | .br _ x _ => (match x with | .br _ _ t => t | _ => .fail) | _ => .fail
noncomputable def t41 (s : Int) (l : List (List PC)) : Tr (Int × Unit) := behind (g41 (s, (l, ())))
theorem t41_eq (s : Int) (l : List (List PC)) : behind (g44 (s, (l, ()))) = t41 s l := by kernel_rfl
def askR (o : Option (Int × Unit)) (t : Option (Int × Unit)) : Option (Int × Unit) := cond o.isSome (cond (!eqI (o.getD (0, ())).1 0) (some (0, ())) t) none
theorem g41_val (s : Int) (l : List (List PC)) : (g41 (s, (l, ()))).val = askR (g72 (s, (l, ()))).val (t41 s l).val := by kernel_rfl
theorem g44_val (s : Int) (l : List (List PC)) : (g44 (s, (l, ()))).val = askR (g74 (s, (l, ()))).val (behind (g44 (s, (l, ())))).val := by kernel_rfl
theorem t41_1 (n : Int) : (t41 1 [[iP n]]).val = some (n, ()) := by kernel_rfl
theorem t41_2 (n : Int) : (t41 2 [[iP n]]).val = some (n, ()) := by kernel_rfl
theorem t41_3 (n m : Int) : (t41 3 [[iP n], [iP m]]).val = some (n, ()) := by kernel_rfl
theorem t41_4 (n : Int) : (t41 4 [[iP n]]).val = some (n, ()) := by kernel_rfl
theorem t41_5 : (t41 5 []).val = some (1, ()) := by kernel_rfl
theorem t41_6 : (t41 6 []).val = some (1, ()) := by kernel_rfl
theorem t41_7 (n : Int) : (t41 7 [[iP n]]).val = some (n, ()) := by kernel_rfl
theorem t41_8 (n : Int) : (t41 8 [[iP n]]).val = some (n, ()) := by kernel_rfl
theorem t41_9 (n m : Int) : ((t41 9 [[iP n], [iP m]]).val).isSome = true := by kernel_rfl
theorem t41_10 (n : Int) : ((t41 10 [[iP n]]).val).isSome = true := by kernel_rfl
theorem t41_some {s : Int} {ns : List Int} (h : 1 ≤ s ∧ s ≤ 10) (hl : ns.length = cntF s) : ∃ r, (t41 s (ints1 ns)).val = some (r, ()) := by
  have ex : ∀ {o : Option (Int × Unit)}, o.isSome = true → ∃ r, o = some (r, ()) := fun {o} h => by
    obtain ⟨⟨r, u⟩, hr⟩ := Option.isSome_iff_exists.1 h
    exact ⟨r, hr⟩
  rcases ten h.1 h.2 with rfl | rfl | rfl | rfl | rfl | rfl | rfl | rfl | rfl | rfl
  · obtain ⟨n, rfl⟩ := one_of (show ns.length = 1 from hl); exact ⟨_, t41_1 n⟩
  · obtain ⟨n, rfl⟩ := one_of (show ns.length = 1 from hl); exact ⟨_, t41_2 n⟩
  · obtain ⟨n, m, rfl⟩ := two_of (show ns.length = 2 from hl); exact ⟨_, t41_3 n m⟩
  · obtain ⟨n, rfl⟩ := one_of (show ns.length = 1 from hl); exact ⟨_, t41_4 n⟩
  · obtain rfl := zero_of (show ns.length = 0 from hl); exact ⟨_, t41_5⟩
  · obtain rfl := zero_of (show ns.length = 0 from hl); exact ⟨_, t41_6⟩
  · obtain ⟨n, rfl⟩ := one_of (show ns.length = 1 from hl); exact ⟨_, t41_7 n⟩
  · obtain ⟨n, rfl⟩ := one_of (show ns.length = 1 from hl); exact ⟨_, t41_8 n⟩
  · obtain ⟨n, m, rfl⟩ := two_of (show ns.length = 2 from hl); exact ex (t41_9 n m)
  · obtain ⟨n, rfl⟩ := one_of (show ns.length = 1 from hl); exact ex (t41_10 n)
/-- filter.Reach and the reference's. -/
theorem f41 (s : Int) (ns : List Int) : ∃ r, (g41 (s, (ints1 ns, ()))).val = some (r, ()) ∧ (g44 (s, (ints1 ns, ()))).val = some (r, ()) := by
  obtain ⟨r, h1, h2, h3⟩ := f72 s ns
  rw [g41_val, g44_val, t41_eq, h1, h2]
  unfold askR
  by_cases hr : r = 0
  · obtain ⟨q, hq⟩ := t41_some (h3 hr).1 (h3 hr).2
    subst hr
    exact ⟨q, hq, hq⟩
  · have e : (!eqI r 0) = true := by rw [eqI_eq]; simp [hr]
    simp only [Option.isSome_some, Option.getD_some, cond_true, e]
    exact ⟨0, rfl, rfl⟩
end Go.Ev

namespace Go.Ev
open Go Go.Proofs
set_option maxRecDepth 100000
set_option linter.unusedSimpArgs false

/-- A displacement that is too great. -/
def farD (d : Int × Int) : Bool := decide (d.1 < -1048576) || (decide (1048576 < d.1) || (decide (d.2 < -1048576) || decide (1048576 < d.2)))
theorem toNat_len {α : Type} (l : List α) : Int.toNat (Int.ofNat l.length) = l.length := rfl
theorem pts_at (p : List (Int × Int)) (d : Int × Int) (r : List (Int × Int)) : nthR (pts (p ++ d :: r)) p.length = some [iP d.1, iP d.2] := by rw [pts_get]; simp
theorem lt_len {α : Type} (p : List α) (d : α) (r : List α) : ltI (Int.ofNat p.length) (Int.ofNat (p ++ d :: r).length) = true := by rw [ltI_iff]; simp [Int.ofNat_eq_natCast]; omega
theorem lt_end {α : Type} (p : List α) : ltI (Int.ofNat p.length) (Int.ofNat (p ++ []).length) = false := by rw [ltI_eq]; simp
theorem le_len {α : Type} (p : List α) : leI 0 (Int.ofNat p.length) = true := by rw [leI_iff]; simp [Int.ofNat_eq_natCast]
theorem next_len {α : Type} {p : List α} {d : α} {r : List α} (h : (p ++ d :: r).length ≤ 9223372036854775807) : wrapR .i64 (addI (Int.ofNat p.length) 1) = Int.ofNat (p ++ [d]).length := by
  simp only [List.length_append, List.length_cons] at h
  rw [addI_eq, wrapR64 (by simp [Int.ofNat_eq_natCast]; omega) (by simp [Int.ofNat_eq_natCast]; omega)]
  simp [Int.ofNat_eq_natCast]
theorem cond_or (a b : Bool) : cond a true b = (a || b) := by cases a <;> rfl
theorem loop73 (x2 : Int) : ∀ (r p : List (Int × Int)), (p ++ r).length ≤ 9223372036854775807 →
    loopT L73_0_step (x2, (pts (p ++ r), (Int.ofNat (p ++ r).length, (Int.ofNat p.length, ())))) = some (if r.any farD = true then .inl (2, ()) else .inr (.inl (x2, ())))
  | [], p, _ => by
    rw [loopT_eq]
    simp only [L73_0_step, Tr.val_br, lt_end]
    rfl
  | d :: r, p, h => by
    rw [loopT_eq]
    simp only [L73_0_step, Tr.val_br, lt_len, le_len, if_true, Tr.val_opt, toNat_len, pts_at, Option.bind_some, dec2, Tr.val_ret, cond_or, next_len h]
    have ih := loop73 x2 r (p ++ [d]) (by simpa using h)
    rw [List.append_assoc, List.singleton_append] at ih
    have e : (ltI d.1 (-1048576) || ltI 1048576 d.1 || ltI d.2 (-1048576) || ltI 1048576 d.2) = farD d := by
      unfold farD; simp only [ltI_eq, Bool.or_assoc]
    rw [e, List.any_cons]
    cases hf : farD d with
    | true => simp
    | false =>
      simp only [Bool.false_eq_true, if_false, Bool.false_or, Option.bind_some]
      exact ih
theorem loop75 (x2 a b c : Int) : ∀ (r p : List (Int × Int)), (p ++ r).length ≤ 9223372036854775807 →
    loopT L75_0_step (x2, (Int.ofNat (p ++ r).length, (Int.ofNat p.length, (a, (b, (c, (pts (p ++ r), ()))))))) = some (if r.any farD = true then .inl (2, ()) else .inr (.inl (x2, ())))
  | [], p, _ => by
    rw [loopT_eq]
    simp only [L75_0_step, Tr.val_br, lt_end]
    rfl
  | d :: r, p, h => by
    rw [loopT_eq]
    simp only [L75_0_step, Tr.val_br, lt_len, le_len, if_true, Tr.val_opt, toNat_len, pts_at, Option.bind_some, Nat.add, dec2a, dec2b, Tr.val_ret, next_len h]
    have ih := loop75 x2 a b c r (p ++ [d]) (by simpa using h)
    rw [List.append_assoc, List.singleton_append] at ih
    rw [List.any_cons]
    simp only [farD, ltI_eq, decide_eq_true_eq]
    by_cases h1 : d.1 < -1048576
    · simp [h1]
    · by_cases h2 : 1048576 < d.1
      · simp [h1, h2]
      · by_cases h3 : d.2 < -1048576
        · simp [h1, h2, h3]
        · by_cases h4 : 1048576 < d.2
          · simp [h1, h2, h3, h4]
          · simp only [h1, h2, h3, h4, if_false, decide_false, Bool.false_or, Option.bind_some]
            exact ih
/-- The greatest displacement so far. -/
def mxD (m : Int) (d : Int × Int) : Int := max (max (max (max m d.1) (-d.1)) d.2) (-d.2)
theorem far_bd {d : Int × Int} (h : farD d = false) : -1048576 ≤ d.1 ∧ d.1 ≤ 1048576 ∧ -1048576 ≤ d.2 ∧ d.2 ≤ 1048576 := by
  unfold farD at h
  simp only [Bool.or_eq_false_iff, decide_eq_false_iff_not] at h
  omega
theorem neg_wrap {n : Int} (h1 : -1048576 ≤ n) (h2 : n ≤ 1048576) : IntKind.i64.wrap (0 - n) = -n := by rw [wrap64 (by omega) (by omega)]; omega
theorem loop42 (x2 : Int) : ∀ (r p : List (Int × Int)) (m : Int), (p ++ r).length ≤ 9223372036854775807 → r.any farD = false →
    loopT L42_0_step (x2, (m, (pts (p ++ r), (Int.ofNat (p ++ r).length, (Int.ofNat p.length, ()))))) = some (.inl (x2, (r.foldl mxD m, ())))
  | [], p, m, _, _ => by
    rw [loopT_eq]
    simp only [L42_0_step, Tr.val_br, lt_end]
    rfl
  | d :: r, p, m, h, hf => by
    rw [List.any_cons, Bool.or_eq_false_iff] at hf
    obtain ⟨b1, b2, b3, b4⟩ := far_bd hf.1
    rw [loopT_eq]
    simp only [L42_0_step, Tr.val_br, lt_len, le_len, if_true, Tr.val_opt, toNat_len, pts_at, Option.bind_some, dec2, Tr.val_ret, next_len h, neg_wrap b1 b2, neg_wrap b3 b4]
    have ih := loop42 x2 r (p ++ [d]) (mxD m d) (by simpa using h) hf.2
    rw [List.append_assoc, List.singleton_append] at ih
    rw [List.foldl_cons, ← ih]
    have e : (if -d.2 > (if d.2 > (if -d.1 > (if d.1 > m then d.1 else m) then -d.1 else if d.1 > m then d.1 else m) then d.2 else if -d.1 > (if d.1 > m then d.1 else m) then -d.1 else if d.1 > m then d.1 else m) then -d.2
        else if d.2 > (if -d.1 > (if d.1 > m then d.1 else m) then -d.1 else if d.1 > m then d.1 else m) then d.2 else if -d.1 > (if d.1 > m then d.1 else m) then -d.1 else if d.1 > m then d.1 else m) = mxD m d := by
      unfold mxD; omega
    rw [e]
theorem loop45 (x2 a b c : Int) : ∀ (r p : List (Int × Int)) (m : Int), (p ++ r).length ≤ 9223372036854775807 → r.any farD = false →
    loopT L45_0_step (x2, (m, (Int.ofNat (p ++ r).length, (Int.ofNat p.length, (a, (b, (c, (pts (p ++ r), ())))))))) = some (.inl (x2, (r.foldl mxD m, ())))
  | [], p, m, _, _ => by
    rw [loopT_eq]
    simp only [L45_0_step, Tr.val_br, lt_end]
    rfl
  | d :: r, p, m, h, hf => by
    rw [List.any_cons, Bool.or_eq_false_iff] at hf
    obtain ⟨b1, b2, b3, b4⟩ := far_bd hf.1
    rw [loopT_eq]
    simp only [L45_0_step, Tr.val_br, lt_len, le_len, if_true, Tr.val_opt, toNat_len, pts_at, Option.bind_some, Nat.add, dec2a, dec2b, Tr.val_ret, next_len h, neg_wrap b1 b2, neg_wrap b3 b4, ltI_iff]
    have ih := loop45 x2 a b c r (p ++ [d]) (mxD m d) (by simpa using h) hf.2
    rw [List.append_assoc, List.singleton_append] at ih
    rw [List.foldl_cons, ← ih]
    repeat' split
    all_goals
      simp only [Option.bind_some]
      refine congrArg (fun q => loopT L45_0_step (x2, (q, _))) ?_
      unfold mxD
      omega
theorem mxD_bd : ∀ (r : List (Int × Int)) (m : Int), 0 ≤ m → m ≤ 1048576 → r.any farD = false → 0 ≤ r.foldl mxD m ∧ r.foldl mxD m ≤ 1048576
  | [], m, h1, h2, _ => ⟨h1, h2⟩
  | d :: r, m, h1, h2, hf => by
    rw [List.any_cons, Bool.or_eq_false_iff] at hf
    obtain ⟨b1, b2, b3, b4⟩ := far_bd hf.1
    exact mxD_bd r (mxD m d) (by unfold mxD; omega) (by unfold mxD; omega) hf.2
/-- What warp.Check's first questions come to. -/
noncomputable def badW (c r s : Int) (n : Nat) : Bool := cond (cond (cond (cond (cond (cond (ltI c 2) true (ltI 8 c)) true (ltI r 2)) true (ltI 8 r)) true (ltI s 1)) true (ltI 256 s)) true (!eqI (Int.ofNat n) (wrapR .i64 (mulI c r)))
theorem g73_val (c r s : Int) (l : List (List PC)) : (g73 (c, (r, (s, (l, ()))))).val = if badW c r s l.length = true then some (15, ()) else
    (loopT L73_0_step (0, (l, (Int.ofNat l.length, (0, ()))))).bind fun v => match v with | .inl v => some (v.1, ()) | .inr (.inl _) => some (0, ()) | .inr (.inr _) => none := by
  unfold g73
  simp only [Tr.val_br, Tr.val_ret, Tr.val_opt]
  have e : badW c r s l.length = (Bool.not (cond (leI 2 c) (leI c 8) false) || cond (cond (cond (Bool.not (cond (leI 2 r) (leI r 8) false)) true (ltI s 1)) true (ltI 256 s)) true (Bool.not (eqI (Int.ofNat l.length) (wrapR .i64 (mulI c r))))) := by
    unfold badW
    have e2 : ∀ a : Int, Bool.not (cond (leI 2 a) (leI a 8) false) = (ltI a 2 || ltI 8 a) := fun a => by
      simp only [leI_eq, ltI_eq]
      by_cases h1 : (2 : Int) ≤ a <;> by_cases h2 : a ≤ 8 <;> simp [h1, h2] <;> omega
    rw [e2, e2]
    simp only [cond_or, Bool.or_assoc]
  rw [e]
  have l3 : ∀ o : Option ((Int × Unit) ⊕ ((Int × Unit) ⊕ Empty)), (o.bind fun v => (Tr.sum _ _ v (fun v197 => Tr.ret (v197.1, ())) (fun v197 => Tr.sum _ _ v197 (fun _ => Tr.ret ((0 : Int), ())) (fun _ => Tr.fail))).val) =
      o.bind fun v => match v with | .inl v => some (v.1, ()) | .inr (.inl _) => some (0, ()) | .inr (.inr _) => none := fun o => by
    refine congrArg (Option.bind _) (funext fun v => ?_)
    cases v with
    | inl v => rfl
    | inr v => cases v <;> rfl
  rw [l3]
  cases (Bool.not (cond (leI 2 c) (leI c 8) false)) with
  | true => rfl
  | false => rfl
theorem g75_val (c r s : Int) (l : List (List PC)) : (g75 (c, (r, (s, (l, ()))))).val = if badW c r s l.length = true then some (15, ()) else
    (loopT L75_0_step (0, (Int.ofNat l.length, (0, (c, (r, (s, (l, ())))))))).bind fun v => match v with | .inl v => some (v.1, ()) | .inr (.inl _) => some (0, ()) | .inr (.inr _) => none := by
  unfold g75
  simp only [Tr.val_br, Tr.val_ret, Tr.val_opt]
  unfold badW
  have l3 : ∀ o : Option ((Int × Unit) ⊕ ((Int × Unit) ⊕ Empty)), (o.bind fun v => (Tr.sum _ _ v (fun v197 => Tr.ret (v197.1, ())) (fun v197 => Tr.sum _ _ v197 (fun _ => Tr.ret ((0 : Int), ())) (fun _ => Tr.fail))).val) =
      o.bind fun v => match v with | .inl v => some (v.1, ()) | .inr (.inl _) => some (0, ()) | .inr (.inr _) => none := fun o => by
    refine congrArg (Option.bind _) (funext fun v => ?_)
    cases v with
    | inl v => rfl
    | inr v => cases v <;> rfl
  rw [l3]
/-- warp.Check and the reference's. -/
noncomputable def ckW (c r s : Int) (ds : List (Int × Int)) : Int := if badW c r s ds.length = true then 15 else if ds.any farD = true then 2 else 0
theorem f73 (c r s : Int) (ds : List (Int × Int)) (h : ds.length ≤ 9223372036854775807) : (g73 (c, (r, (s, (pts ds, ()))))).val = some (ckW c r s ds, ()) := by
  rw [g73_val, pts_len]
  unfold ckW
  have := loop73 0 ds [] (by simpa using h)
  simp only [List.nil_append, List.length_nil] at this
  erw [this]
  split
  · rfl
  · split <;> rfl
theorem f75 (c r s : Int) (ds : List (Int × Int)) (h : ds.length ≤ 9223372036854775807) : (g75 (c, (r, (s, (pts ds, ()))))).val = some (ckW c r s ds, ()) := by
  rw [g75_val, pts_len]
  unfold ckW
  have := loop75 0 c r s ds [] (by simpa using h)
  simp only [List.nil_append, List.length_nil] at this
  erw [this]
  split
  · rfl
  · split <;> rfl
theorem floor76 {m : Int} (h1 : 0 ≤ m) (h2 : m ≤ 1048576) : (g76 (-m, (65536, ()))).val = some (-((m + 65535).tdiv 65536), ()) := by
  unfold g76
  have e0 : eqI 65536 0 = false := by kernel_rfl
  have e1 : eqI 65536 (-1) = false := by kernel_rfl
  have e2 : ltI 65536 0 = false := by kernel_rfl
  have hc : ∀ b : Bool, cond b false false = false := fun b => by cases b <;> rfl
  simp only [Tr.val_br, Tr.val_ret, e0, e1, e2, hc, Bool.false_eq_true, if_false]
  have d1 : (-m).tdiv 65536 = -(m / 65536) := by rw [Int.neg_tdiv, Int.tdiv_eq_ediv_of_nonneg h1]
  have d2 : (m + 65535).tdiv 65536 = (m + 65535) / 65536 := Int.tdiv_eq_ediv_of_nonneg (by omega)
  have d3 : (-m).tmod 65536 = -(m % 65536) := by rw [Int.neg_tmod, Int.tmod_eq_emod_of_nonneg h1]
  rw [d1, d2, d3]
  have w1 : wrapR .i64 (-(m / 65536)) = -(m / 65536) := wrapR64 (by omega) (by omega)
  have w2 : wrapR .i64 (subI (-(m / 65536)) 1) = -(m / 65536) - 1 := by rw [subI_eq]; exact wrapR64 (by omega) (by omega)
  rw [w1, w2]
  by_cases hz : m % 65536 = 0
  · have e3 : eqI (-(m % 65536)) 0 = true := by rw [eqI_iff]; omega
    rw [e3]
    simp only [Bool.not_true, cond_false, Bool.false_eq_true, if_false]
    congr 2; omega
  · have e3 : eqI (-(m % 65536)) 0 = false := by rw [eqI_eq]; simp; omega
    have e4 : ltI (-(m % 65536)) 0 = true := by rw [ltI_iff]; omega
    rw [e3, e4]
    simp only [Bool.not_false, cond_true]
    rw [if_pos (by rfl)]
    congr 2; omega
/-- warp.Reach and the reference's. -/
theorem f42 (c r s : Int) (ds : List (Int × Int)) (h : ds.length ≤ 9223372036854775807) : ∃ q, (g42 (c, (r, (s, (pts ds, ()))))).val = some (q, ()) ∧ (g45 (c, (r, (s, (pts ds, ()))))).val = some (q, ()) := by
  unfold g42 g45
  simp only [f73 c r s ds h, f75 c r s ds h, Option.isSome_some, Option.getD_some, Tr.val_br, if_true]
  by_cases hz : ckW c r s ds = 0
  · have hf : ds.any farD = false := by
      unfold ckW at hz
      split at hz
      · omega
      · split at hz
        · omega
        · next h => simpa using h
    rw [hz]
    have e : (Bool.not (eqI 0 0) = true) = False := by simp [show eqI 0 0 = true from by kernel_rfl]
    simp only [e, if_false, Tr.val_opt, pts_len]
    have l1 := loop42 0 ds [] 0 (by simpa using h) hf
    have l2 := loop45 0 c r s ds [] 0 (by simpa using h) hf
    simp only [List.nil_append, List.length_nil] at l1 l2
    obtain ⟨m1, m2⟩ := mxD_bd ds 0 (by omega) (by omega) hf
    erw [l1, l2]
    simp only [Option.bind_some, Tr.val_inl, Tr.val_ret, Tr.val_br]
    have w : IntKind.i64.wrap (0 - List.foldl mxD 0 ds) = -List.foldl mxD 0 ds := neg_wrap (by omega) m2
    rw [w, floor76 m1 m2]
    simp only [Option.isSome_some, Option.getD_some, if_true]
    have d2 : (List.foldl mxD 0 ds + 65535).tdiv 65536 = (List.foldl mxD 0 ds + 65535) / 65536 := Int.tdiv_eq_ediv_of_nonneg (by omega)
    rw [addI_eq, subI_eq, wrapR64 (n := List.foldl mxD 0 ds + 65536) (by omega) (by omega), wrapR64 (n := List.foldl mxD 0 ds + 65536 - 1) (by omega) (by omega), show List.foldl mxD 0 ds + 65536 - 1 = List.foldl mxD 0 ds + 65535 by omega, d2,
      wrapR64 (by omega) (by omega), show (0 : Int) - -((List.foldl mxD 0 ds + 65535) / 65536) = (List.foldl mxD 0 ds + 65535) / 65536 by omega, wrap64 (by omega) (by omega)]
    exact ⟨_, rfl, rfl⟩
  · have e : (Bool.not (eqI (ckW c r s ds) 0) = true) = True := by rw [eqI_eq]; simp [hz]
    simp only [e, if_true]
    exact ⟨_, rfl, rfl⟩
end Go.Ev

namespace Go.Ev
open Go Go.Proofs
set_option maxRecDepth 100000

/-- A node, as the functions' laws take it. -/
abbrev NodeT : Type := Int × Int × Int × ByteArray × Bool × Bool × Bool × Int × Int × Int × Int × List (List PC) × Int × Int × Int × Int × Int × Int × Int × Int × Int × List (List PC) × Int × Int × Int × Int × Int × List (List PC) × Int × List (List PC) × List (List PC) × Int × Int × Int × Int × ByteArray × Int × Int × Int × Int × Int × Int × List (List PC) × Unit
def nodeT (a : NodeS) : NodeT := (a.id, a.kind, a.parent, a.name, a.hidden, a.locked, a.clip, a.opacity, a.mode, a.mw, a.mh, a.mv, a.ta, a.tb, a.tc, a.td, a.te, a.tf, a.kernel, a.iw, a.ih, a.pix, a.cr, a.cg, a.cb, a.ca, a.sub, a.par, a.spread, a.stops, a.segs, a.rule, a.width, a.join, a.cap, a.text, a.size, a.wrap, a.ref, a.wc, a.wr, a.ws, a.wd, ())
theorem reach_eq {a : NodeS} (h : NodeOK a) : ∃ r, (g19 (nodeT a)).val = some (r, ()) ∧ (g20 (nodeT a)).val = some (r, ()) := by
  obtain ⟨ns, hp, _⟩ := h.par.ints
  obtain ⟨ds, hd, _⟩ := h.wd.points
  have hl : ds.length ≤ 9223372036854775807 := by
    have := h.wd.len
    rw [hd, pts_len] at this
    exact this
  obtain ⟨r1, h1, h2⟩ := f41 a.sub ns
  obtain ⟨r2, h3, h4⟩ := f42 a.wc a.wr a.ws ds hl
  have hk : (Tr.get ((0 : Int), ()) (g43 (a.kernel, ()))).1 = (Tr.get ((0 : Int), ()) (g46 (a.kernel, ()))).1 := by
    have e : ∀ k : Int, (Tr.get ((0 : Int), ()) (g43 (k, ()))).1 = (cond (cond (leI 0 k) (leI k 4) false) (cond (cond (eqI k 2) true (eqI k 4)) 2 1) 0 : Int) := fun k => by
      show (@Bool.rec (fun _ => Int × Unit) (@Bool.rec (fun _ => Int × Unit) (1, ()) (2, ()) (cond (eqI k 2) true (eqI k 4))) (0, ()) (Bool.not (cond (leI 0 k) (leI k 4) false))).1 = _
      cases (cond (leI 0 k) (leI k 4) false) <;> cases (cond (eqI k 2) true (eqI k 4)) <;> rfl
    have e2 : ∀ k : Int, (Tr.get ((0 : Int), ()) (g46 (k, ()))).1 = (cond (cond (eqI k 2) true (eqI k 4)) 2 (cond (cond (leI 0 k) (leI k 4) false) 1 0) : Int) := fun k => by
      show (@Bool.rec (fun _ => Int × Unit) (@Bool.rec (fun _ => Int × Unit) (0, ()) (1, ()) (cond (leI 0 k) (leI k 4) false)) (2, ()) (cond (eqI k 2) true (eqI k 4))).1 = _
      cases (cond (leI 0 k) (leI k 4) false) <;> cases (cond (eqI k 2) true (eqI k 4)) <;> rfl
    rw [e, e2]
    cases h5 : (cond (eqI a.kernel 2) true (eqI a.kernel 4)) with
    | false => rfl
    | true =>
      have h6 : a.kernel = 2 ∨ a.kernel = 4 := by
        rw [cond_or, Bool.or_eq_true, eqI_iff, eqI_iff] at h5; exact h5
      rcases h6 with h6 | h6 <;> rw [h6] <;> rfl
  unfold g19 g20
  simp only [nodeT, Tr.val_br, Tr.val_ret, hp, hd, h1, h2, h3, h4, hk, Option.isSome_some, Option.getD_some, if_true]
  by_cases c1 : eqI a.kind 8 = true
  · simp only [if_pos c1]; exact ⟨_, rfl, rfl⟩
  · simp only [if_neg c1]
    by_cases c2 : eqI a.kind 11 = true
    · simp only [if_pos c2]; exact ⟨_, rfl, rfl⟩
    · simp only [if_neg c2]; exact ⟨_, rfl, rfl⟩
theorem reads_val {a : NodeS} (h : NodeOK a) : (g5 (nodeT a)).val = some (true, ()) := by
  obtain ⟨r, h1, h2⟩ := reach_eq h
  have hb : ∀ b : Bool, (b == b) = true := fun b => by cases b <;> rfl
  have he : eqI r r = true := eqI_iff.2 rfl
  unfold g5
  have h1' := h1
  have h2' := h2
  simp only [nodeT] at h1' h2'
  simp only [nodeT, Tr.val_br, Tr.val_ret, hb, if_true, h1', h2', Option.isSome_some, Option.getD_some, he]
theorem args_node {a : NodeS} (h : NodeOK a) : F5.args (nodeT a) = [.pagg a.cells] := by
  unfold NodeS.cells
  rw [h.mvn, h.pixn, h.parn, h.stopn, h.segn, h.wdn]
  kernel_rfl
theorem law5 {a : NodeS} (h : NodeOK a) : Law EC 5 [.pagg a.cells] [.v (.bool true)] := by
  have := F5_ok (nodeT a) (true, ()) (reads_val h)
  rw [args_node h] at this
  exact this
end Go.Ev
