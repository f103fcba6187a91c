/-
  path.image of the points of the new text: each by the kernel.
  num.Div of the numbers of the new text: each by the kernel.
-/
import Derived.Test.YtaibdhmiglacdaaGreatDoorEv11

namespace Go.Ev
open Go Go.Proofs
set_option maxRecDepth 100000
def idQ : List PC := [iQ 65536, iQ 0, iQ 0, iQ 65536, iQ 0, iQ 0]
def ImgOK (p : Nat × Nat) : Prop := fnN EC 500 109 [.pagg idQ, .pagg [iQ (Int.ofNat p.1), iQ (Int.ofNat p.2)]] = decR (rks EC 109) [iQ (Int.ofNat p.1), iQ (Int.ofNat p.2)]
theorem img_0 : ImgOK (0, 77) := by unfold ImgOK; kernel_rfl
theorem img_1 : ImgOK (0, 102) := by unfold ImgOK; kernel_rfl
theorem img_2 : ImgOK (26, 26) := by unfold ImgOK; kernel_rfl
theorem img_3 : ImgOK (26, 77) := by unfold ImgOK; kernel_rfl
theorem img_4 : ImgOK (26, 102) := by unfold ImgOK; kernel_rfl
theorem img_5 : ImgOK (26, 179) := by unfold ImgOK; kernel_rfl
theorem img_6 : ImgOK (51, 26) := by unfold ImgOK; kernel_rfl
theorem img_7 : ImgOK (51, 77) := by unfold ImgOK; kernel_rfl
theorem img_8 : ImgOK (51, 102) := by unfold ImgOK; kernel_rfl
theorem img_9 : ImgOK (51, 179) := by unfold ImgOK; kernel_rfl
theorem img_10 : ImgOK (51, 205) := by unfold ImgOK; kernel_rfl
theorem img_11 : ImgOK (77, 77) := by unfold ImgOK; kernel_rfl
theorem img_12 : ImgOK (77, 102) := by unfold ImgOK; kernel_rfl
theorem img_13 : ImgOK (77, 179) := by unfold ImgOK; kernel_rfl
theorem img_14 : ImgOK (77, 205) := by unfold ImgOK; kernel_rfl
theorem img_15 : ImgOK (102, 154) := by unfold ImgOK; kernel_rfl
theorem img_16 : ImgOK (102, 179) := by unfold ImgOK; kernel_rfl
theorem img_17 : ImgOK (102, 205) := by unfold ImgOK; kernel_rfl
theorem img_18 : ImgOK (128, 154) := by unfold ImgOK; kernel_rfl
theorem img_19 : ImgOK (128, 179) := by unfold ImgOK; kernel_rfl
theorem img_20 : ImgOK (154, 102) := by unfold ImgOK; kernel_rfl
theorem img_21 : ImgOK (154, 179) := by unfold ImgOK; kernel_rfl
theorem img_22 : ImgOK (179, 77) := by unfold ImgOK; kernel_rfl
theorem img_23 : ImgOK (179, 102) := by unfold ImgOK; kernel_rfl
theorem img_24 : ImgOK (179, 128) := by unfold ImgOK; kernel_rfl
theorem img_25 : ImgOK (179, 154) := by unfold ImgOK; kernel_rfl
theorem img_26 : ImgOK (179, 179) := by unfold ImgOK; kernel_rfl
theorem img_27 : ImgOK (179, 205) := by unfold ImgOK; kernel_rfl
theorem img_28 : ImgOK (205, 77) := by unfold ImgOK; kernel_rfl
theorem img_29 : ImgOK (205, 102) := by unfold ImgOK; kernel_rfl
theorem img_30 : ImgOK (205, 128) := by unfold ImgOK; kernel_rfl
theorem img_31 : ImgOK (205, 154) := by unfold ImgOK; kernel_rfl
theorem img_32 : ImgOK (205, 179) := by unfold ImgOK; kernel_rfl
theorem img_33 : ImgOK (205, 205) := by unfold ImgOK; kernel_rfl
theorem img_34 : ImgOK (230, 77) := by unfold ImgOK; kernel_rfl
theorem img_35 : ImgOK (230, 102) := by unfold ImgOK; kernel_rfl
theorem img_36 : ImgOK (230, 128) := by unfold ImgOK; kernel_rfl
theorem img_37 : ImgOK (230, 154) := by unfold ImgOK; kernel_rfl
theorem img_38 : ImgOK (230, 179) := by unfold ImgOK; kernel_rfl
theorem img_39 : ImgOK (230, 205) := by unfold ImgOK; kernel_rfl
theorem img_40 : ImgOK (256, 77) := by unfold ImgOK; kernel_rfl
theorem img_41 : ImgOK (256, 102) := by unfold ImgOK; kernel_rfl
theorem img_42 : ImgOK (256, 128) := by unfold ImgOK; kernel_rfl
theorem img_43 : ImgOK (256, 154) := by unfold ImgOK; kernel_rfl
theorem img_44 : ImgOK (256, 179) := by unfold ImgOK; kernel_rfl
theorem img_45 : ImgOK (256, 205) := by unfold ImgOK; kernel_rfl
theorem img_46 : ImgOK (282, 102) := by unfold ImgOK; kernel_rfl
theorem img_47 : ImgOK (282, 154) := by unfold ImgOK; kernel_rfl
theorem img_48 : ImgOK (307, 77) := by unfold ImgOK; kernel_rfl
theorem img_49 : ImgOK (307, 102) := by unfold ImgOK; kernel_rfl
theorem img_50 : ImgOK (307, 179) := by unfold ImgOK; kernel_rfl
theorem img_51 : ImgOK (307, 205) := by unfold ImgOK; kernel_rfl
theorem img_52 : ImgOK (333, 77) := by unfold ImgOK; kernel_rfl
theorem img_53 : ImgOK (333, 102) := by unfold ImgOK; kernel_rfl
theorem img_54 : ImgOK (333, 128) := by unfold ImgOK; kernel_rfl
theorem img_55 : ImgOK (333, 154) := by unfold ImgOK; kernel_rfl
theorem img_56 : ImgOK (333, 179) := by unfold ImgOK; kernel_rfl
theorem img_57 : ImgOK (333, 205) := by unfold ImgOK; kernel_rfl
theorem img_58 : ImgOK (358, 102) := by unfold ImgOK; kernel_rfl
theorem img_59 : ImgOK (358, 128) := by unfold ImgOK; kernel_rfl
theorem img_60 : ImgOK (358, 154) := by unfold ImgOK; kernel_rfl
theorem img_61 : ImgOK (358, 179) := by unfold ImgOK; kernel_rfl
theorem img_62 : ImgOK (384, 102) := by unfold ImgOK; kernel_rfl
theorem img_63 : ImgOK (384, 128) := by unfold ImgOK; kernel_rfl
theorem img_64 : ImgOK (384, 154) := by unfold ImgOK; kernel_rfl
theorem img_65 : ImgOK (384, 179) := by unfold ImgOK; kernel_rfl
theorem img_66 : ImgOK (410, 77) := by unfold ImgOK; kernel_rfl
theorem img_67 : ImgOK (410, 102) := by unfold ImgOK; kernel_rfl
theorem img_68 : ImgOK (410, 128) := by unfold ImgOK; kernel_rfl
theorem img_69 : ImgOK (410, 154) := by unfold ImgOK; kernel_rfl
theorem img_70 : ImgOK (410, 179) := by unfold ImgOK; kernel_rfl
theorem img_71 : ImgOK (410, 205) := by unfold ImgOK; kernel_rfl
theorem img_72 : ImgOK (435, 77) := by unfold ImgOK; kernel_rfl
theorem img_73 : ImgOK (435, 102) := by unfold ImgOK; kernel_rfl
theorem img_74 : ImgOK (435, 179) := by unfold ImgOK; kernel_rfl
theorem img_75 : ImgOK (435, 205) := by unfold ImgOK; kernel_rfl
theorem img_76 : ImgOK (461, 77) := by unfold ImgOK; kernel_rfl
theorem img_77 : ImgOK (461, 102) := by unfold ImgOK; kernel_rfl
theorem img_78 : ImgOK (486, 26) := by unfold ImgOK; kernel_rfl
theorem img_79 : ImgOK (486, 77) := by unfold ImgOK; kernel_rfl
theorem img_80 : ImgOK (486, 102) := by unfold ImgOK; kernel_rfl
theorem img_81 : ImgOK (486, 179) := by unfold ImgOK; kernel_rfl
theorem img_82 : ImgOK (512, 26) := by unfold ImgOK; kernel_rfl
theorem img_83 : ImgOK (512, 77) := by unfold ImgOK; kernel_rfl
theorem img_84 : ImgOK (512, 102) := by unfold ImgOK; kernel_rfl
theorem img_85 : ImgOK (512, 179) := by unfold ImgOK; kernel_rfl
theorem img_86 : ImgOK (512, 205) := by unfold ImgOK; kernel_rfl
theorem img_87 : ImgOK (538, 77) := by unfold ImgOK; kernel_rfl
theorem img_88 : ImgOK (538, 102) := by unfold ImgOK; kernel_rfl
theorem img_89 : ImgOK (538, 179) := by unfold ImgOK; kernel_rfl
theorem img_90 : ImgOK (538, 205) := by unfold ImgOK; kernel_rfl
theorem img_91 : ImgOK (563, 154) := by unfold ImgOK; kernel_rfl
theorem img_92 : ImgOK (563, 179) := by unfold ImgOK; kernel_rfl
theorem img_93 : ImgOK (563, 205) := by unfold ImgOK; kernel_rfl
theorem img_94 : ImgOK (589, 154) := by unfold ImgOK; kernel_rfl
theorem img_95 : ImgOK (589, 179) := by unfold ImgOK; kernel_rfl
def imgPairs : List (Nat × Nat) := [(0, 77), (0, 102), (26, 26), (26, 77), (26, 102), (26, 179), (51, 26), (51, 77), (51, 102), (51, 179), (51, 205), (77, 77), (77, 102), (77, 179), (77, 205), (102, 154), (102, 179), (102, 205), (128, 154), (128, 179), (154, 102), (154, 179), (179, 77), (179, 102), (179, 128), (179, 154), (179, 179), (179, 205), (205, 77), (205, 102), (205, 128), (205, 154), (205, 179), (205, 205), (230, 77), (230, 102), (230, 128), (230, 154), (230, 179), (230, 205), (256, 77), (256, 102), (256, 128), (256, 154), (256, 179), (256, 205), (282, 102), (282, 154), (307, 77), (307, 102), (307, 179), (307, 205), (333, 77), (333, 102), (333, 128), (333, 154), (333, 179), (333, 205), (358, 102), (358, 128), (358, 154), (358, 179), (384, 102), (384, 128), (384, 154), (384, 179), (410, 77), (410, 102), (410, 128), (410, 154), (410, 179), (410, 205), (435, 77), (435, 102), (435, 179), (435, 205), (461, 77), (461, 102), (486, 26), (486, 77), (486, 102), (486, 179), (512, 26), (512, 77), (512, 102), (512, 179), (512, 205), (538, 77), (538, 102), (538, 179), (538, 205), (563, 154), (563, 179), (563, 205), (589, 154), (589, 179)]
theorem imgs_ok : AllP ImgOK imgPairs := ⟨img_0, img_1, img_2, img_3, img_4, img_5, img_6, img_7, img_8, img_9, img_10, img_11, img_12, img_13, img_14, img_15, img_16, img_17, img_18, img_19, img_20, img_21, img_22, img_23, img_24, img_25, img_26, img_27, img_28, img_29, img_30, img_31, img_32, img_33, img_34, img_35, img_36, img_37, img_38, img_39, img_40, img_41, img_42, img_43, img_44, img_45, img_46, img_47, img_48, img_49, img_50, img_51, img_52, img_53, img_54, img_55, img_56, img_57, img_58, img_59, img_60, img_61, img_62, img_63, img_64, img_65, img_66, img_67, img_68, img_69, img_70, img_71, img_72, img_73, img_74, img_75, img_76, img_77, img_78, img_79, img_80, img_81, img_82, img_83, img_84, img_85, img_86, img_87, img_88, img_89, img_90, img_91, img_92, img_93, img_94, img_95, trivial⟩
def memQ (c b : Nat) : List (Nat × Nat) → Bool
  | [] => false
  | p :: l => cond (Nat.beq p.1 c) (cond (Nat.beq p.2 b) true (memQ c b l)) (memQ c b l)
theorem memQ_mem (c b : Nat) : ∀ (l : List (Nat × Nat)), memQ c b l = true → (c, b) ∈ l := by
  intro l
  induction l with
  | nil => intro h; cases h
  | cons p l ih =>
    intro h
    obtain ⟨x, y⟩ := p
    simp only [memQ] at h
    cases h1 : Nat.beq x c with
    | false => rw [h1] at h; exact List.mem_cons_of_mem _ (ih h)
    | true =>
      rw [h1] at h
      cases h2 : Nat.beq y b with
      | false => rw [h2] at h; exact List.mem_cons_of_mem _ (ih h)
      | true =>
        have e1 := Nat.eq_of_beq_eq_true h1
        have e2 := Nat.eq_of_beq_eq_true h2
        subst e1; subst e2
        exact List.mem_cons_self
def imgIs (x y : Nat) : Bool := memQ x y imgPairs
theorem law109 (c b : Nat) (h : imgIs c b = true) : Law EC 109 [.pagg idQ, .pagg [iQ (Int.ofNat c), iQ (Int.ofNat b)]] [iQ (Int.ofNat c), iQ (Int.ofNat b)] := by
  intro r hr
  have hok := AllP.mem imgs_ok _ (memQ_mem c b _ h)
  unfold ImgOK at hok
  exact fnV_sim mixed (fun f ag c cs r h => by cases h) ((fnN_eq EC rfl 500 109 [.pagg idQ, .pagg [iQ (Int.ofNat c), iQ (Int.ofNat b)]]).symm.trans (hok.trans hr))
end Go.Ev

namespace Go.Ev
open Go Go.Proofs
set_option maxRecDepth 100000
def DivOK (p : Nat × Nat) : Prop := fnN EC 300 82 [i64 (Int.ofNat p.1), i64 1000] = decR (rks EC 82) [iQ (Int.ofNat p.2)]
theorem div_0 : DivOK (0, 0) := by unfold DivOK; kernel_rfl
theorem div_25600 : DivOK (25600, 26) := by unfold DivOK; kernel_rfl
theorem div_51200 : DivOK (51200, 51) := by unfold DivOK; kernel_rfl
theorem div_76800 : DivOK (76800, 77) := by unfold DivOK; kernel_rfl
theorem div_102400 : DivOK (102400, 102) := by unfold DivOK; kernel_rfl
theorem div_128000 : DivOK (128000, 128) := by unfold DivOK; kernel_rfl
theorem div_153600 : DivOK (153600, 154) := by unfold DivOK; kernel_rfl
theorem div_179200 : DivOK (179200, 179) := by unfold DivOK; kernel_rfl
theorem div_204800 : DivOK (204800, 205) := by unfold DivOK; kernel_rfl
theorem div_230400 : DivOK (230400, 230) := by unfold DivOK; kernel_rfl
theorem div_256000 : DivOK (256000, 256) := by unfold DivOK; kernel_rfl
theorem div_281600 : DivOK (281600, 282) := by unfold DivOK; kernel_rfl
theorem div_307200 : DivOK (307200, 307) := by unfold DivOK; kernel_rfl
theorem div_332800 : DivOK (332800, 333) := by unfold DivOK; kernel_rfl
theorem div_358400 : DivOK (358400, 358) := by unfold DivOK; kernel_rfl
theorem div_384000 : DivOK (384000, 384) := by unfold DivOK; kernel_rfl
theorem div_409600 : DivOK (409600, 410) := by unfold DivOK; kernel_rfl
theorem div_435200 : DivOK (435200, 435) := by unfold DivOK; kernel_rfl
theorem div_460800 : DivOK (460800, 461) := by unfold DivOK; kernel_rfl
theorem div_486400 : DivOK (486400, 486) := by unfold DivOK; kernel_rfl
theorem div_512000 : DivOK (512000, 512) := by unfold DivOK; kernel_rfl
theorem div_537600 : DivOK (537600, 538) := by unfold DivOK; kernel_rfl
theorem div_563200 : DivOK (563200, 563) := by unfold DivOK; kernel_rfl
theorem div_588800 : DivOK (588800, 589) := by unfold DivOK; kernel_rfl
def divPairs : List (Nat × Nat) := [(0, 0), (25600, 26), (51200, 51), (76800, 77), (102400, 102), (128000, 128), (153600, 154), (179200, 179), (204800, 205), (230400, 230), (256000, 256), (281600, 282), (307200, 307), (332800, 333), (358400, 358), (384000, 384), (409600, 410), (435200, 435), (460800, 461), (486400, 486), (512000, 512), (537600, 538), (563200, 563), (588800, 589)]
theorem divs_ok : AllP DivOK divPairs := ⟨div_0, div_25600, div_51200, div_76800, div_102400, div_128000, div_153600, div_179200, div_204800, div_230400, div_256000, div_281600, div_307200, div_332800, div_358400, div_384000, div_409600, div_435200, div_460800, div_486400, div_512000, div_537600, div_563200, div_588800, trivial⟩
def findQ (a : Nat) : List (Nat × Nat) → Option Nat
  | [] => none
  | p :: l => cond (Nat.beq p.1 a) (some p.2) (findQ a l)
theorem findQ_mem (a b : Nat) : ∀ (l : List (Nat × Nat)), findQ a l = some b → (a, b) ∈ l := by
  intro l
  induction l with
  | nil => intro h; cases h
  | cons p l ih =>
    intro h
    obtain ⟨x, y⟩ := p
    simp only [findQ] at h
    cases h1 : Nat.beq x a with
    | false => rw [h1] at h; exact List.mem_cons_of_mem _ (ih h)
    | true =>
      rw [h1] at h
      have e1 := Nat.eq_of_beq_eq_true h1
      subst e1
      cases h
      exact List.mem_cons_self
theorem law82 (a b : Nat) (h : findQ a divPairs = some b) : Law EC 82 [i64 (Int.ofNat a), i64 1000] [iQ (Int.ofNat b)] := by
  intro r hr
  have hok := AllP.mem divs_ok _ (findQ_mem a b _ h)
  unfold DivOK at hok
  exact fnV_sim mixed (fun f ag c cs r h => by cases h) ((fnN_eq EC rfl 300 82 [i64 (Int.ofNat a), i64 1000]).symm.trans (hok.trans hr))
end Go.Ev
