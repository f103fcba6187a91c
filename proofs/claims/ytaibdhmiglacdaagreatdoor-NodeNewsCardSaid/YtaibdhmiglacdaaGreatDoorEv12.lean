/-
  The standard font.
-/
import Derived.Test.YtaibdhmiglacdaaGreatDoorEv11

namespace Go.Ev
open Go Go.Proofs
set_option maxRecDepth 100000

def u8S (n : Int) : SV := .one (.p (.v (.int .u8 n)))
def DigOK (p : Nat × Nat) : Prop := fnN EC 500 120 [u8S (Int.ofNat p.1)] = decR (rks EC 120) [iQ (Int.ofNat p.2)]
theorem dig_48 : DigOK (48, 0) := by unfold DigOK; kernel_rfl
theorem dig_49 : DigOK (49, 1) := by unfold DigOK; kernel_rfl
theorem dig_50 : DigOK (50, 2) := by unfold DigOK; kernel_rfl
theorem dig_51 : DigOK (51, 3) := by unfold DigOK; kernel_rfl
theorem dig_52 : DigOK (52, 4) := by unfold DigOK; kernel_rfl
theorem dig_53 : DigOK (53, 5) := by unfold DigOK; kernel_rfl
theorem dig_54 : DigOK (54, 6) := by unfold DigOK; kernel_rfl
theorem dig_55 : DigOK (55, 7) := by unfold DigOK; kernel_rfl
theorem dig_56 : DigOK (56, 8) := by unfold DigOK; kernel_rfl
theorem dig_57 : DigOK (57, 9) := by unfold DigOK; kernel_rfl
theorem dig_97 : DigOK (97, 10) := by unfold DigOK; kernel_rfl
theorem dig_98 : DigOK (98, 11) := by unfold DigOK; kernel_rfl
theorem dig_99 : DigOK (99, 12) := by unfold DigOK; kernel_rfl
theorem dig_100 : DigOK (100, 13) := by unfold DigOK; kernel_rfl
theorem dig_101 : DigOK (101, 14) := by unfold DigOK; kernel_rfl
theorem dig_102 : DigOK (102, 15) := by unfold DigOK; kernel_rfl
def digPairs : List (Nat × Nat) := [(48, 0), (49, 1), (50, 2), (51, 3), (52, 4), (53, 5), (54, 6), (55, 7), (56, 8), (57, 9), (97, 10), (98, 11), (99, 12), (100, 13), (101, 14), (102, 15)]
theorem digs_ok : AllP DigOK digPairs := ⟨dig_48, dig_49, dig_50, dig_51, dig_52, dig_53, dig_54, dig_55, dig_56, dig_57, dig_97, dig_98, dig_99, dig_100, dig_101, dig_102, trivial⟩
def digQ (a : Nat) : Nat := cond (Nat.blt a 58) (a - 48) (a - 87)
def digIs (a : Nat) : Bool := (Nat.ble 48 a && Nat.blt a 58) || (Nat.ble 97 a && Nat.blt a 103)
theorem dig_all : ((List.range 128).all fun a => !digIs a || digPairs.contains (a, digQ a)) = true := by kernel_rfl
theorem dig_mem (a : Nat) (ha : a < 128) (h : digIs a = true) : (a, digQ a) ∈ digPairs := by
  have := List.all_eq_true.1 dig_all a (List.mem_range.2 ha)
  rw [h] at this
  exact List.contains_iff_mem.1 this
def maskOf (c : Nat) : Nat := cond (Nat.beq c 0) 276479423915544133012054151729205285335 (cond (Nat.beq c 1) 255222161289861215650494599661048497079 (cond (Nat.beq c 2) 215340127732962336945967207491432813343 (cond (Nat.beq c 3) 170141184728145347858336820437865137079 283125564072733282347945375887795749343)))
def colIs (c b : Nat) : Bool := Nat.blt c 5 && (Nat.blt b 128 && Nat.beq (Nat.land (Nat.shiftRight (maskOf c) b) 1) 1)
theorem col_all : ((List.range 5).all fun c => (List.range 128).all fun b => !colIs c b || colPairs.contains (c, b)) = true := by kernel_rfl
theorem col_mem (c : Nat) (hc : c < 5) (b : Nat) (hb : b < 128) (h : colIs c b = true) : (c, b) ∈ colPairs := by
  have := List.all_eq_true.1 (List.all_eq_true.1 col_all c (List.mem_range.2 hc)) b (List.mem_range.2 hb)
  rw [h] at this
  exact List.contains_iff_mem.1 this
theorem law119 (c b : Nat) (h : (c, b) ∈ colPairs) : Law EC 119 [i64 (Int.ofNat c), i64 (Int.ofNat b)] [.sl 7 false (colQ c b)] := by
  intro r hr
  have hok := AllP.mem cols_ok _ h
  unfold ColOK at hok
  exact fnV_sim mixed (fun f ag c cs r h => by cases h) ((fnN_eq EC rfl 500 119 [i64 (Int.ofNat c), i64 (Int.ofNat b)]).symm.trans (hok.trans hr))
theorem law120 (a : Nat) (h : (a, digQ a) ∈ digPairs) : Law EC 120 [u8S (Int.ofNat a)] [iQ (Int.ofNat (digQ a))] := by
  intro r hr
  have hok := AllP.mem digs_ok _ h
  unfold DigOK at hok
  exact fnV_sim mixed (fun f ag c cs r h => by cases h) ((fnN_eq EC rfl 500 120 [u8S (Int.ofNat a)]).symm.trans (hok.trans hr))
theorem blt_q {a b : Nat} : Nat.blt a b = true ↔ a < b := by unfold Nat.blt; rw [Nat.ble_eq]; exact Iff.rfl

def nat94 (f : FuncId) (args : List SV) : Option (Option Bool × List PC) :=
  if f = 119 then (match args with | [.one (.p (.v (.int .i64 (.ofNat c)))), .one (.p (.v (.int .i64 (.ofNat b))))] => cond (colIs c b) (some (none, [.sl 7 false (colQ c b)])) none | _ => none)
  else if f = 120 then (match args with | [.one (.p (.v (.int .u8 (.ofNat a))))] => cond (Nat.blt a 128 && digIs a) (some (none, [iQ (Int.ofNat (digQ a))])) none | _ => none)
  else none
noncomputable def E94 : Env := envOf nat94 [] false
theorem nat94_ok : NatOK E94 := NatOK.of fun f ag c cs h hpre => by
  clear hpre
  have h' : nat94 f ag = some (c, cs) := h
  unfold nat94 at h'
  split at h'
  · next hf =>
    subst hf
    split at h'
    · next c b =>
      cases hc : colIs c b with
      | false => rw [hc] at h'; cases h'
      | true =>
        rw [hc] at h'
        cases h'
        have h0 : Nat.blt c 5 = true ∧ Nat.blt b 128 = true := by
          unfold colIs at hc
          simp only [Bool.and_eq_true] at hc
          exact ⟨hc.1, hc.2.1⟩
        exact law119 c b (col_mem c (blt_q.1 h0.1) b (blt_q.1 h0.2) hc)
    · cases h'
  · split at h'
    · next hf =>
      subst hf
      split at h'
      · next a =>
        cases hc : (Nat.blt a 128 && digIs a) with
        | false => rw [hc] at h'; cases h'
        | true =>
          rw [hc] at h'
          cases h'
          obtain ⟨h1, h2⟩ := (Bool.and_eq_true _ _).mp hc
          exact law120 a (dig_mem a (blt_q.1 h1) h2)
      · cases h'
    · cases h'

def bitsTab : List (List Nat) := [[0, 0, 0, 0, 0], [0, 0, 95, 0, 0], [0, 7, 0, 7, 0], [20, 127, 20, 127, 20], [36, 42, 127, 42, 18], [35, 19, 8, 100, 98], [54, 73, 86, 32, 80], [0, 5, 3, 0, 0], [0, 28, 34, 65, 0], [0, 65, 34, 28, 0], [20, 8, 62, 8, 20], [8, 8, 62, 8, 8], [0, 80, 48, 0, 0], [8, 8, 8, 8, 8], [0, 96, 96, 0, 0], [32, 16, 8, 4, 2], [62, 81, 73, 69, 62], [0, 66, 127, 64, 0], [66, 97, 81, 73, 70], [33, 65, 69, 75, 49], [24, 20, 18, 127, 16], [39, 69, 69, 69, 57], [60, 74, 73, 73, 48], [1, 113, 9, 5, 3], [54, 73, 73, 73, 54], [6, 73, 73, 41, 30], [0, 54, 54, 0, 0], [0, 86, 54, 0, 0], [8, 20, 34, 65, 0], [20, 20, 20, 20, 20], [0, 65, 34, 20, 8], [2, 1, 81, 9, 6], [50, 73, 121, 65, 62], [126, 17, 17, 17, 126], [127, 73, 73, 73, 54], [62, 65, 65, 65, 34], [127, 65, 65, 34, 28], [127, 73, 73, 73, 65], [127, 9, 9, 9, 1], [62, 65, 73, 73, 122], [127, 8, 8, 8, 127], [0, 65, 127, 65, 0], [32, 64, 65, 63, 1], [127, 8, 20, 34, 65], [127, 64, 64, 64, 64], [127, 2, 12, 2, 127], [127, 4, 8, 16, 127], [62, 65, 65, 65, 62], [127, 9, 9, 9, 6], [62, 65, 81, 33, 94], [127, 9, 25, 41, 70], [70, 73, 73, 73, 49], [1, 1, 127, 1, 1], [63, 64, 64, 64, 63], [31, 32, 64, 32, 31], [63, 64, 56, 64, 63], [99, 20, 8, 20, 99], [7, 8, 112, 8, 7], [97, 81, 73, 69, 67], [0, 127, 65, 65, 0], [2, 4, 8, 16, 32], [0, 65, 65, 127, 0], [4, 2, 1, 2, 4], [64, 64, 64, 64, 64], [0, 1, 2, 4, 0], [32, 84, 84, 84, 120], [127, 72, 68, 68, 56], [56, 68, 68, 68, 32], [56, 68, 68, 72, 127], [56, 84, 84, 84, 24], [8, 126, 9, 1, 2], [12, 82, 82, 82, 62], [127, 8, 4, 4, 120], [0, 68, 125, 64, 0], [32, 64, 68, 61, 0], [127, 16, 40, 68, 0], [0, 65, 127, 64, 0], [124, 4, 24, 4, 120], [124, 8, 4, 4, 120], [56, 68, 68, 68, 56], [124, 20, 20, 20, 8], [8, 20, 20, 24, 124], [124, 8, 4, 4, 8], [72, 84, 84, 84, 32], [4, 63, 68, 64, 32], [60, 64, 64, 32, 124], [28, 32, 64, 32, 28], [60, 64, 48, 64, 60], [68, 40, 16, 40, 68], [12, 80, 80, 80, 60], [68, 100, 84, 76, 68], [0, 8, 54, 65, 0], [0, 0, 127, 0, 0], [0, 65, 54, 8, 0], [16, 8, 8, 16, 8]]
def glyphQ (i : Nat) (l : List Nat) : List PC := [.v (.int .u8 (Int.ofNat (32 + i))), iQ 600, .sl 7 false ((l.zipIdx.map fun p => colQ p.2 p.1).flatten)]
def glyphsQ : List (List PC) := bitsTab.zipIdx.map fun p => glyphQ p.2 p.1
def kernQ (a b : Int) : List PC := [.v (.int .u8 a), .v (.int .u8 b), iQ (-100)]
def kernsQ : List (List PC) := [kernQ 65 86, kernQ 76 84, kernQ 84 97, kernQ 86 65]
def fontQ : List PC := [iQ 1000, iQ 800, iQ 1200, .sl 3 false glyphsQ, .sl 3 false kernsQ]
theorem font94 : fnN E94 3000 94 [] = decR (rks E94 94) fontQ := by kernel_rfl
theorem law94 : Law E94 94 [] fontQ := law_of mixed nat94_ok ((fnN_eq E94 rfl _ _ _).symm.trans font94)
end Go.Ev
