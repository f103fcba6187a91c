/-
  A node that is read: its cells.
  Nodes that are read may be compared.
-/
import Derived.Test.YtaibdhmiglacdaaGreatDoorSm10
import Derived.Test.YtaibdhmiglacdaaGreatDoorSm11

namespace Go.Ev
open Go Go.Proofs
set_option maxRecDepth 100000

def shI : Sh := .int .i64
/-- A list of s integers an element, of so many bytes. -/
structure LOK (bs s : Nat) (l : List (List PC)) : Prop where
  len : l.length ≤ maxLen
  bytes : l.length * bs ≤ reachBytes
  els : ∀ e ∈ l, e.length = s ∧ ∀ (i : Nat) (c : PC), e[i]? = some c → ∃ n, c = .v (.int .i64 n) ∧ (Lit.int .i64 n).wf = true
theorem fit_int {c : PC} (h : Fit shI c) : ∃ n, c = iP n ∧ (Lit.int .i64 n).wf = true := by
  unfold shI at h; cases h with | int k n hw => exact ⟨n, rfl, hw⟩
theorem fit_bool {c : PC} (h : Fit .bool c) : ∃ b, c = bP b := by cases h with | bool b => exact ⟨b, rfl⟩
theorem fit_str {c : PC} (h : Fit .str c) : ∃ s, c = sP s ∧ s.size ≤ reachBytes := by cases h with | str s hs => exact ⟨s, rfl, hs⟩
theorem fit_list {c : PC} {bs s : Nat} (h : Fit (.list bs (List.replicate s shI)) c) : ∃ l, c = .sl s false l ∧ LOK bs s l := by
  generalize he : Sh.list bs (List.replicate s shI) = sh at h
  cases h with
  | list bs' es l h1 h2 h3 h4 =>
    cases he
    refine ⟨l, by simp, h1, h2, fun e hm => ⟨by simpa using h3 e hm, fun i c hc => ?_⟩⟩
    have hi : i < s := by
      have := h3 e hm
      simp at this
      rcases Nat.lt_or_ge i e.length with hl | hl
      · omega
      · rw [List.getElem?_eq_none hl] at hc; cases hc
    exact fit_int (h4 e i shI c hm (by rw [List.getElem?_replicate, if_pos hi]) hc)
  | _ => cases he
theorem decs_ints : ∀ (s : Nat) (e : List PC), e.length = s → (∀ (i : Nat) (c : PC), e[i]? = some c → ∃ n, c = .v (.int .i64 n)) → ∃ t, decs (List.replicate s (.int .i64)) e = some t
  | 0, [], _, _ => ⟨(), rfl⟩
  | s + 1, c :: e, hl, h => by
    obtain ⟨n, rfl⟩ := h 0 c rfl
    obtain ⟨t, ht⟩ := decs_ints s e (by simpa using hl) fun i c hc => h (i + 1) c (by simpa using hc)
    refine ⟨(n, t), ?_⟩
    simp only [List.replicate_succ, decs]
    rw [ht]
    rfl
  | 0, _ :: _, hl, _ => by simp at hl
  | _ + 1, [], hl, _ => by simp at hl
theorem LOK.dec {bs s : Nat} {l : List (List PC)} (h : LOK bs s l) {e : List PC} (he : e ∈ l) : ∃ t, decs (kI s) (e.take s) = some t := by
  obtain ⟨h1, h2⟩ := h.els e he
  rw [List.take_of_length_le (by omega)]
  exact decs_ints s e h1 fun i c hc => (h2 i c hc).imp fun n hn => hn.1

def nodeSh : List Sh := [shI, shI, shI, .str, .bool, .bool, .bool, shI, shI, shI, shI, .list 8 (List.replicate 1 shI), shI, shI, shI, shI, shI, shI, shI, shI, shI, .list 32 (List.replicate 4 shI), shI, shI, shI, shI, shI, .list 8 (List.replicate 1 shI), shI, .list 40 (List.replicate 5 shI), .list 56 (List.replicate 7 shI), shI, shI, shI, shI, .str, shI, shI, shI, shI, shI, shI, .list 16 (List.replicate 2 shI)]
theorem nodeSh_ok : shapes Tryz.prog 8 38 = some nodeSh := by kernel_rfl
/-- What is known of a node's fields. -/
structure NodeOK (a : NodeS) : Prop where
  id : (Lit.int .i64 a.id).wf = true
  kind : (Lit.int .i64 a.kind).wf = true
  parent : (Lit.int .i64 a.parent).wf = true
  name : a.name.size ≤ reachBytes
  opacity : (Lit.int .i64 a.opacity).wf = true
  mode : (Lit.int .i64 a.mode).wf = true
  mw : (Lit.int .i64 a.mw).wf = true
  mh : (Lit.int .i64 a.mh).wf = true
  mv : LOK 8 1 a.mv
  mvn : a.mvn = false
  ta : (Lit.int .i64 a.ta).wf = true
  tb : (Lit.int .i64 a.tb).wf = true
  tc : (Lit.int .i64 a.tc).wf = true
  td : (Lit.int .i64 a.td).wf = true
  te : (Lit.int .i64 a.te).wf = true
  tf : (Lit.int .i64 a.tf).wf = true
  kernel : (Lit.int .i64 a.kernel).wf = true
  iw : (Lit.int .i64 a.iw).wf = true
  ih : (Lit.int .i64 a.ih).wf = true
  pix : LOK 32 4 a.pix
  pixn : a.pixn = false
  cr : (Lit.int .i64 a.cr).wf = true
  cg : (Lit.int .i64 a.cg).wf = true
  cb : (Lit.int .i64 a.cb).wf = true
  ca : (Lit.int .i64 a.ca).wf = true
  sub : (Lit.int .i64 a.sub).wf = true
  par : LOK 8 1 a.par
  parn : a.parn = false
  spread : (Lit.int .i64 a.spread).wf = true
  stops : LOK 40 5 a.stops
  stopn : a.stopn = false
  segs : LOK 56 7 a.segs
  segn : a.segn = false
  rule : (Lit.int .i64 a.rule).wf = true
  width : (Lit.int .i64 a.width).wf = true
  join : (Lit.int .i64 a.join).wf = true
  cap : (Lit.int .i64 a.cap).wf = true
  text : a.text.size ≤ reachBytes
  size : (Lit.int .i64 a.size).wf = true
  wrap : (Lit.int .i64 a.wrap).wf = true
  ref : (Lit.int .i64 a.ref).wf = true
  wc : (Lit.int .i64 a.wc).wf = true
  wr : (Lit.int .i64 a.wr).wf = true
  ws : (Lit.int .i64 a.ws).wf = true
  wd : LOK 16 2 a.wd
  wdn : a.wdn = false
set_option maxHeartbeats 1000000 in
theorem node_fits {l : List PC} {es : List Sh} (h : Fits (nodeSh ++ es) l) : ∃ a tail, l = NodeS.cells a ++ tail ∧ Fits es tail ∧ NodeOK a := by
  unfold nodeSh at h
  obtain ⟨c0, r0, e0, f0, h1⟩ := Fits.uncons (sh := shI) h
  clear h
  obtain ⟨c1, r1, e1, f1, h2⟩ := Fits.uncons (sh := shI) h1
  clear h1
  obtain ⟨c2, r2, e2, f2, h3⟩ := Fits.uncons (sh := shI) h2
  clear h2
  obtain ⟨c3, r3, e3, f3, h4⟩ := Fits.uncons (sh := Sh.str) h3
  clear h3
  obtain ⟨c4, r4, e4, f4, h5⟩ := Fits.uncons (sh := Sh.bool) h4
  clear h4
  obtain ⟨c5, r5, e5, f5, h6⟩ := Fits.uncons (sh := Sh.bool) h5
  clear h5
  obtain ⟨c6, r6, e6, f6, h7⟩ := Fits.uncons (sh := Sh.bool) h6
  clear h6
  obtain ⟨c7, r7, e7, f7, h8⟩ := Fits.uncons (sh := shI) h7
  clear h7
  obtain ⟨c8, r8, e8, f8, h9⟩ := Fits.uncons (sh := shI) h8
  clear h8
  obtain ⟨c9, r9, e9, f9, h10⟩ := Fits.uncons (sh := shI) h9
  clear h9
  obtain ⟨c10, r10, e10, f10, h11⟩ := Fits.uncons (sh := shI) h10
  clear h10
  obtain ⟨c11, r11, e11, f11, h12⟩ := Fits.uncons (sh := Sh.list 8 (List.replicate 1 shI)) h11
  clear h11
  obtain ⟨c12, r12, e12, f12, h13⟩ := Fits.uncons (sh := shI) h12
  clear h12
  obtain ⟨c13, r13, e13, f13, h14⟩ := Fits.uncons (sh := shI) h13
  clear h13
  obtain ⟨c14, r14, e14, f14, h15⟩ := Fits.uncons (sh := shI) h14
  clear h14
  obtain ⟨c15, r15, e15, f15, h16⟩ := Fits.uncons (sh := shI) h15
  clear h15
  obtain ⟨c16, r16, e16, f16, h17⟩ := Fits.uncons (sh := shI) h16
  clear h16
  obtain ⟨c17, r17, e17, f17, h18⟩ := Fits.uncons (sh := shI) h17
  clear h17
  obtain ⟨c18, r18, e18, f18, h19⟩ := Fits.uncons (sh := shI) h18
  clear h18
  obtain ⟨c19, r19, e19, f19, h20⟩ := Fits.uncons (sh := shI) h19
  clear h19
  obtain ⟨c20, r20, e20, f20, h21⟩ := Fits.uncons (sh := shI) h20
  clear h20
  obtain ⟨c21, r21, e21, f21, h22⟩ := Fits.uncons (sh := Sh.list 32 (List.replicate 4 shI)) h21
  clear h21
  obtain ⟨c22, r22, e22, f22, h23⟩ := Fits.uncons (sh := shI) h22
  clear h22
  obtain ⟨c23, r23, e23, f23, h24⟩ := Fits.uncons (sh := shI) h23
  clear h23
  obtain ⟨c24, r24, e24, f24, h25⟩ := Fits.uncons (sh := shI) h24
  clear h24
  obtain ⟨c25, r25, e25, f25, h26⟩ := Fits.uncons (sh := shI) h25
  clear h25
  obtain ⟨c26, r26, e26, f26, h27⟩ := Fits.uncons (sh := shI) h26
  clear h26
  obtain ⟨c27, r27, e27, f27, h28⟩ := Fits.uncons (sh := Sh.list 8 (List.replicate 1 shI)) h27
  clear h27
  obtain ⟨c28, r28, e28, f28, h29⟩ := Fits.uncons (sh := shI) h28
  clear h28
  obtain ⟨c29, r29, e29, f29, h30⟩ := Fits.uncons (sh := Sh.list 40 (List.replicate 5 shI)) h29
  clear h29
  obtain ⟨c30, r30, e30, f30, h31⟩ := Fits.uncons (sh := Sh.list 56 (List.replicate 7 shI)) h30
  clear h30
  obtain ⟨c31, r31, e31, f31, h32⟩ := Fits.uncons (sh := shI) h31
  clear h31
  obtain ⟨c32, r32, e32, f32, h33⟩ := Fits.uncons (sh := shI) h32
  clear h32
  obtain ⟨c33, r33, e33, f33, h34⟩ := Fits.uncons (sh := shI) h33
  clear h33
  obtain ⟨c34, r34, e34, f34, h35⟩ := Fits.uncons (sh := shI) h34
  clear h34
  obtain ⟨c35, r35, e35, f35, h36⟩ := Fits.uncons (sh := Sh.str) h35
  clear h35
  obtain ⟨c36, r36, e36, f36, h37⟩ := Fits.uncons (sh := shI) h36
  clear h36
  obtain ⟨c37, r37, e37, f37, h38⟩ := Fits.uncons (sh := shI) h37
  clear h37
  obtain ⟨c38, r38, e38, f38, h39⟩ := Fits.uncons (sh := shI) h38
  clear h38
  obtain ⟨c39, r39, e39, f39, h40⟩ := Fits.uncons (sh := shI) h39
  clear h39
  obtain ⟨c40, r40, e40, f40, h41⟩ := Fits.uncons (sh := shI) h40
  clear h40
  obtain ⟨c41, r41, e41, f41, h42⟩ := Fits.uncons (sh := shI) h41
  clear h41
  obtain ⟨c42, r42, e42, f42, h43⟩ := Fits.uncons (sh := Sh.list 16 (List.replicate 2 shI)) h42
  clear h42
  obtain ⟨x0, rfl, w0⟩ := fit_int f0
  obtain ⟨x1, rfl, w1⟩ := fit_int f1
  obtain ⟨x2, rfl, w2⟩ := fit_int f2
  obtain ⟨x3, rfl, w3⟩ := fit_str f3
  obtain ⟨x4, rfl⟩ := fit_bool f4
  obtain ⟨x5, rfl⟩ := fit_bool f5
  obtain ⟨x6, rfl⟩ := fit_bool f6
  obtain ⟨x7, rfl, w7⟩ := fit_int f7
  obtain ⟨x8, rfl, w8⟩ := fit_int f8
  obtain ⟨x9, rfl, w9⟩ := fit_int f9
  obtain ⟨x10, rfl, w10⟩ := fit_int f10
  obtain ⟨x11, rfl, w11⟩ := fit_list f11
  obtain ⟨x12, rfl, w12⟩ := fit_int f12
  obtain ⟨x13, rfl, w13⟩ := fit_int f13
  obtain ⟨x14, rfl, w14⟩ := fit_int f14
  obtain ⟨x15, rfl, w15⟩ := fit_int f15
  obtain ⟨x16, rfl, w16⟩ := fit_int f16
  obtain ⟨x17, rfl, w17⟩ := fit_int f17
  obtain ⟨x18, rfl, w18⟩ := fit_int f18
  obtain ⟨x19, rfl, w19⟩ := fit_int f19
  obtain ⟨x20, rfl, w20⟩ := fit_int f20
  obtain ⟨x21, rfl, w21⟩ := fit_list f21
  obtain ⟨x22, rfl, w22⟩ := fit_int f22
  obtain ⟨x23, rfl, w23⟩ := fit_int f23
  obtain ⟨x24, rfl, w24⟩ := fit_int f24
  obtain ⟨x25, rfl, w25⟩ := fit_int f25
  obtain ⟨x26, rfl, w26⟩ := fit_int f26
  obtain ⟨x27, rfl, w27⟩ := fit_list f27
  obtain ⟨x28, rfl, w28⟩ := fit_int f28
  obtain ⟨x29, rfl, w29⟩ := fit_list f29
  obtain ⟨x30, rfl, w30⟩ := fit_list f30
  obtain ⟨x31, rfl, w31⟩ := fit_int f31
  obtain ⟨x32, rfl, w32⟩ := fit_int f32
  obtain ⟨x33, rfl, w33⟩ := fit_int f33
  obtain ⟨x34, rfl, w34⟩ := fit_int f34
  obtain ⟨x35, rfl, w35⟩ := fit_str f35
  obtain ⟨x36, rfl, w36⟩ := fit_int f36
  obtain ⟨x37, rfl, w37⟩ := fit_int f37
  obtain ⟨x38, rfl, w38⟩ := fit_int f38
  obtain ⟨x39, rfl, w39⟩ := fit_int f39
  obtain ⟨x40, rfl, w40⟩ := fit_int f40
  obtain ⟨x41, rfl, w41⟩ := fit_int f41
  obtain ⟨x42, rfl, w42⟩ := fit_list f42
  subst e42
  subst e41
  subst e40
  subst e39
  subst e38
  subst e37
  subst e36
  subst e35
  subst e34
  subst e33
  subst e32
  subst e31
  subst e30
  subst e29
  subst e28
  subst e27
  subst e26
  subst e25
  subst e24
  subst e23
  subst e22
  subst e21
  subst e20
  subst e19
  subst e18
  subst e17
  subst e16
  subst e15
  subst e14
  subst e13
  subst e12
  subst e11
  subst e10
  subst e9
  subst e8
  subst e7
  subst e6
  subst e5
  subst e4
  subst e3
  subst e2
  subst e1
  subst e0
  exact ⟨⟨x0, x1, x2, x3, x4, x5, x6, x7, x8, x9, x10, false, x11, x12, x13, x14, x15, x16, x17, x18, x19, x20, false, x21, x22, x23, x24, x25, x26, false, x27, x28, false, x29, false, x30, x31, x32, x33, x34, x35, x36, x37, x38, x39, x40, x41, false, x42⟩, r42, rfl, h43, ⟨w0, w1, w2, w3, w7, w8, w9, w10, w11, rfl, w12, w13, w14, w15, w16, w17, w18, w19, w20, w21, rfl, w22, w23, w24, w25, w26, w27, rfl, w28, w29, rfl, w30, rfl, w31, w32, w33, w34, w35, w36, w37, w38, w39, w40, w41, w42, rfl⟩⟩
end Go.Ev

namespace Go.Ev
open Go Go.Proofs
set_option maxRecDepth 100000

theorem eqGo_some {ty : TypeId} {s : Nat} : ∀ (a b : List (List PC)), a.length = b.length → (∀ e ∈ a, ∃ t, decs (kI s) (e.take s) = some t) → (∀ e ∈ b, ∃ t, decs (kI s) (e.take s) = some t) → (eqGo (cmpE (kI s) ty s) a b).isSome = true
  | [], [], _, _, _ => rfl
  | [], _ :: _, h, _, _ => by simp at h
  | _ :: _, [], h, _, _ => by simp at h
  | x :: xs, y :: ys, h, ha, hb => by
    obtain ⟨t, ht⟩ := ha x (by simp)
    obtain ⟨t', ht'⟩ := hb y (by simp)
    have ih := eqGo_some (ty := ty) xs ys (by simpa using h) (fun e he => ha e (by simp [he])) (fun e he => hb e (by simp [he]))
    unfold eqGo
    have e : cmpE (kI s) ty s x y = some (eqV (kI s) ty t t') := by unfold cmpE; rw [ht, ht']; rfl
    rw [e]
    cases hq : eqV (kI s) ty t t' with
    | true => exact ih
    | false => rfl
theorem bne_len {a b : List (List PC)} (h : @bne Int _ a.length b.length = false) : a.length = b.length := by
  have : (a.length : Int) = b.length := by simpa using h
  omega
theorem okL_of {ty : TypeId} {bs s : Nat} {a b : List (List PC)} (ha : LOK bs s a) (hb : LOK bs s b) : okL (kI s) ty s a b = true := by
  unfold okL
  have h1 : Nat.ble a.length 9223372036854775807 = true := Nat.ble_eq_true_of_le ha.len
  rw [h1, cond_true]
  unfold okEq
  cases h : @bne Int _ a.length b.length with
  | true => rfl
  | false => exact eqGo_some a b (bne_len h) (fun e he => ha.dec he) (fun e he => hb.dec he)
theorem okI_of {w h w' h' : Int} {a b : List (List PC)} (ha : LOK 32 4 a) (hb : LOK 32 4 b) : okI w h w' h' a b = true := by
  unfold okI
  have h1 : Nat.ble a.length 9223372036854775807 = true := Nat.ble_eq_true_of_le ha.len
  rw [h1, cond_true]
  unfold okImg
  cases hc : cond (cond (neI w w') true (neI h h')) true (neI a.length b.length) with
  | true => rfl
  | false =>
    have : neI a.length b.length = false := by
      cases hn : neI a.length b.length with
      | false => rfl
      | true => rw [hn] at hc; cases hq : cond (neI w w') true (neI h h') <;> rw [hq] at hc <;> cases hc
    exact eqGo_some a b (bne_len this) (fun e he => ha.dec he) (fun e he => hb.dec he)
theorem okW_of {w h s w' h' s' : Int} {a b : List (List PC)} (ha : LOK 16 2 a) (hb : LOK 16 2 b) : okW w h s w' h' s' a b = true := by
  unfold okW
  have h1 : Nat.ble a.length 9223372036854775807 = true := Nat.ble_eq_true_of_le ha.len
  rw [h1, cond_true]
  unfold okWrp
  cases hc : cond (cond (cond (neI w w') true (neI h h')) true (neI s s')) true (neI a.length b.length) with
  | true => rfl
  | false =>
    have : neI a.length b.length = false := by
      cases hn : neI a.length b.length with
      | false => rfl
      | true => rw [hn] at hc; cases hq : cond (cond (neI w w') true (neI h h')) true (neI s s') <;> rw [hq] at hc <;> cases hc
    exact eqGo_some a b (bne_len this) (fun e he => ha.dec he) (fun e he => hb.dec he)
theorem okT_of {a b : NodeS} (ha : NodeOK a) (hb : NodeOK b) : okT a b = true := by
  unfold okT
  rw [okL_of ha.par hb.par, okL_of ha.stops hb.stops, okL_of ha.segs hb.segs, okL_of ha.mv hb.mv, okL_of ha.pix hb.pix, okL_of ha.wd hb.wd]
  rfl
theorem okR_of {a b : NodeS} (ha : NodeOK a) (hb : NodeOK b) : okR a b = true := by
  unfold okR
  rw [okI_of ha.pix hb.pix, okL_of ha.par hb.par, okL_of ha.stops hb.stops, okL_of ha.segs hb.segs, okW_of ha.wd hb.wd]
  rfl
theorem okT2_of {a b : NodeS} (ha : NodeOK a) (hb : NodeOK b) : okT2 a b = true := by
  unfold okT2
  rw [okL_of ha.mv hb.mv, okR_of ha hb]
  rfl
end Go.Ev
