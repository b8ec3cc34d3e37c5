/- What the printed functions of packet and of its reference come to. -/
import Derived.Test.YtbcphdbcdjdfpaaDoorZDSn
import Derived.Test.YtbcphdbcdjdfpaaDoorZDSw
import Derived.Test.YtbcphdbcdjdfpaaDoorZDP2
import Derived.Test.YtbcphdbcdjdfpaaDoorZDP3
import Derived.Test.YtbcphdbcdjdfpaaDoorZDP5
import Derived.Test.YtbcphdbcdjdfpaaDoorZDP6
import Derived.Test.YtbcphdbcdjdfpaaDoorZDP8
import Derived.Test.YtbcphdbcdjdfpaaDoorZDP0
import Derived.Test.YtbcphdbcdjdfpaaDoorZDP12
import Derived.Test.YtbcphdbcdjdfpaaDoorZDP14
import Derived.Test.YtbcphdbcdjdfpaaDoorZDP16
import Derived.Test.YtbcphdbcdjdfpaaDoorZDP18
import Derived.Test.YtbcphdbcdjdfpaaDoorZDP19
import Derived.Test.YtbcphdbcdjdfpaaDoorZDP21
namespace Go.Proofs.YtbcphdbcdjdfpaaDoor.S
open Go.RowKit Go.Proofs.YtbcphdbcdjdfpaaDoor.P Go.Proofs.YtbcphdbcdjdfpaaDoorW.PrintWords Go.Proofs.YtbcphdbcdjdfpaaDoorW.PrintLast Go.Proofs.YtbcphdbcdjdfpaaDoorW.PrintMore Go.Proofs.YtbcphdbcdjdfpaaDoor.M
set_option linter.unusedVariables false
set_option linter.unusedSimpArgs false
def sizesB (k z : Int) : Bool := decide (1 ≤ k ∧ k ≤ 128 ∧ 1 ≤ z ∧ z ≤ 64)
theorem sizes_f (k z : Int) : packet_sizes.f k z = some (sizesB k z) := by
  unfold packet_sizes.f sizesB
  split
  · split
    · split
      · congr 1; rw [decide_eq_decide]; omega
      · congr 1; symm; rw [decide_eq_false_iff_not]; omega
    · congr 1; symm; rw [decide_eq_false_iff_not]; omega
  · congr 1; symm; rw [decide_eq_false_iff_not]; omega
theorem rsizes_f (k z : Int) : bucketlineref07_sizes.f k z = some (sizesB k z) := by
  unfold bucketlineref07_sizes.f sizesB
  split
  · split
    · split
      · congr 1; rw [decide_eq_decide]; omega
      · congr 1; symm; rw [decide_eq_false_iff_not]; omega
    · congr 1; symm; rw [decide_eq_false_iff_not]; omega
  · congr 1; symm; rw [decide_eq_false_iff_not]; omega
theorem mul_small {k z : Int} (h : sizesB k z = true) : 0 ≤ k * z ∧ k * z ≤ 8192 := by
  unfold sizesB at h
  rw [decide_eq_true_eq] at h
  obtain ⟨h1, h2, h3, h4⟩ := h
  refine ⟨Int.mul_nonneg (by omega) (by omega), ?_⟩
  have := Int.mul_le_mul h2 h4 (by omega) (by omega)
  omega
/-- May a packet be? -/
structure OkP (o l k z h : Int) (v : List Int) (d : ByteArray) : Prop where
  o0 : 0 ≤ o
  o1 : o < 4294967296
  kz : sizesB k z = true
  h0 : 0 ≤ h
  h1 : h ≤ 15
  l0 : 0 ≤ l
  l1 : l ≤ k * z
  dz : (d.size : Int) = z
  va : validB k v = true
  nz : val v ≠ 0
open Classical in
noncomputable def chk (o l k z h : Int) (v : List Int) (d : ByteArray) : Int := if OkP o l k z h v d then 0 else 1
theorem chk_yes {o l k z h : Int} {v : List Int} {d : ByteArray} (p : OkP o l k z h v d) : chk o l k z h v d = 0 := by unfold chk; rw [if_pos p]
theorem chk_no {o l k z h : Int} {v : List Int} {d : ByteArray} (p : ¬ OkP o l k z h v d) : chk o l k z h v d = 1 := by unfold chk; rw [if_neg p]
theorem j1_yes (o l k z h : Int) (v : List Int) (d : ByteArray) : Ev (fun q => packet_Check.j1 q true o l k z h v d) 1 :=
  Ev.step (f := fun _ => some 1) (fun q => by simp only [packet_Check.j1, if_true]) (Ev.now _)
theorem j0_yes (o l k z h : Int) (v : List Int) (d : ByteArray) : Ev (fun q => packet_Check.j0 q true o l k z h v d) 1 :=
  Ev.step (f := fun _ => some 1) (fun q => by simp only [packet_Check.j0, if_true]) (Ev.now _)
theorem j1_no {o l k z h : Int} {v : List Int} {d : ByteArray} (hu : U v) (hl : v.length ≤ 17592186044416) : Ev (fun q => packet_Check.j1 q false o l k z h v d) (if validB k v = true ∧ val v ≠ 0 then 0 else 1) := by
  refine Ev.step (f := fun q => (words_Valid.f k v).bind fun t => if t = true then (words_First.f q v).bind (fun t => if t < 0 then some 1 else some 0) else some 1) (fun q => ?_) ?_
  · simp only [packet_Check.j1, Bool.false_eq_true, if_false]
  · rw [words_Valid hu]
    simp only [Option.bind_some]
    by_cases hv : validB k v = true
    · by_cases h0 : val v = 0
      · have e : (if validB k v = true ∧ val v ≠ 0 then (0 : Int) else 1) = 1 := if_neg fun h => h.2 h0
        rw [e]
        simp only [hv, if_true]
        refine Ev.bind (First hu hl) ?_
        have := firstZ_neg.2 h0
        simp only [this, if_true]; exact Ev.now _
      · have e : (if validB k v = true ∧ val v ≠ 0 then (0 : Int) else 1) = 0 := if_pos ⟨hv, h0⟩
        rw [e]
        simp only [hv, if_true]
        refine Ev.bind (First hu hl) ?_
        have : ¬ firstZ (val v) < 0 := fun h => h0 (firstZ_neg.1 h)
        simp only [this, if_false]; exact Ev.now _
    · have e : (if validB k v = true ∧ val v ≠ 0 then (0 : Int) else 1) = 1 := if_neg fun h => hv h.1
      rw [e]
      simp only [hv, if_false]
      exact Ev.now _
theorem j0_no {o l k z h : Int} {v : List Int} {d : ByteArray} (hu : U v) (hl : v.length ≤ 17592186044416) (hs : sizesB k z = true) (o0 : 0 ≤ o) (o1 : o < 4294967296) (h0 : 0 ≤ h) (h1 : h ≤ 15) : Ev (fun q => packet_Check.j0 q false o l k z h v d) (chk o l k z h v d) := by
  have hm := mul_small hs
  have hw : wrap64 (k * z) = k * z := w64 (by omega) (by omega)
  by_cases hl0 : l < 0
  · rw [chk_no fun p => by have := p.l0; omega]
    refine Ev.step (fun q => ?_) (j1_yes o l k z h v d)
    simp only [packet_Check.j0, Bool.false_eq_true, if_false, hl0, if_true]
  · by_cases hl1 : l > k * z
    · rw [chk_no fun p => by have := p.l1; omega]
      refine Ev.step (fun q => ?_) (j1_yes o l k z h v d)
      simp only [packet_Check.j0, Bool.false_eq_true, if_false, hl0, hw, hl1, if_true]
    · by_cases hd : (d.size : Int) = z
      · have := j1_no (o := o) (l := l) (k := k) (z := z) (h := h) (d := d) hu hl
        refine Ev.step (fun q => ?_) (r := _) (f := fun q => packet_Check.j1 q false o l k z h v d) ?_
        · simp only [packet_Check.j0, Bool.false_eq_true, if_false, hl0, hw, hl1]
          rw [show ((d.size : Int) != z) = false by simp [hd]]
        · by_cases hv : validB k v = true ∧ val v ≠ 0
          · rw [if_pos hv] at this
            rw [chk_yes ⟨o0, o1, hs, h0, h1, by omega, by omega, hd, hv.1, hv.2⟩]; exact this
          · rw [if_neg hv] at this
            rw [chk_no fun p => hv ⟨p.va, p.nz⟩]; exact this
      · rw [chk_no fun p => hd p.dz]
        refine Ev.step (fun q => ?_) (j1_yes o l k z h v d)
        simp only [packet_Check.j0, Bool.false_eq_true, if_false, hl0, hw, hl1]
        rw [show ((d.size : Int) != z) = true by simp [hd]]
theorem Check (o l k z h : Int) {v : List Int} (d : ByteArray) (hu : U v) (hl : v.length ≤ 17592186044416) : Ev (fun q => packet_Check.f q o l k z h v d) (chk o l k z h v d) := by
  unfold packet_Check.f
  by_cases h1 : o < 0
  · rw [chk_no fun p => by have := p.o0; omega]; simp only [h1, if_true]; exact j0_yes _ _ _ _ _ _ _
  · by_cases h2 : o ≥ 4294967296
    · rw [chk_no fun p => by have := p.o1; omega]; simp only [h1, if_false, h2, if_true]; exact j0_yes _ _ _ _ _ _ _
    · simp only [h1, h2, if_false, sizes_f, Option.bind_some]
      by_cases hs : sizesB k z = true
      · simp only [hs, if_true]
        by_cases h3 : h < 0
        · rw [chk_no fun p => by have := p.h0; omega]; simp only [h3, if_true]; exact j0_yes _ _ _ _ _ _ _
        · simp only [h3, if_false]
          by_cases h4 : h > 15
          · rw [chk_no fun p => by have := p.h1; omega, decide_eq_true h4]; exact j0_yes _ _ _ _ _ _ _
          · rw [decide_eq_false h4]; exact j0_no hu hl hs (by omega) (by omega) (by omega) (by omega)
      · rw [chk_no fun p => hs p.kz]; simp only [hs, if_false]; exact j0_yes _ _ _ _ _ _ _
theorem rj0_no (o l k z h : Int) (v : List Int) (d : ByteArray) : Ev (fun q => bucketlineref07_Check.j0 q false o l k z h v d) 1 :=
  Ev.step (f := fun _ => some 1) (fun q => by simp only [bucketlineref07_Check.j0, Bool.false_eq_true, if_false]) (Ev.now _)
theorem rj0_yes {o l k z h : Int} {v : List Int} {d : ByteArray} (hu : U v) (hl : v.length < 17592186044416) (hs : sizesB k z = true) (o0 : 0 ≤ o) (o1 : o < 4294967296) (h0 : 0 ≤ h) (h1 : h ≤ 15) : Ev (fun q => bucketlineref07_Check.j0 q true o l k z h v d) (chk o l k z h v d) := by
  have hm := mul_small hs
  have hw : wrap64 (k * z) = k * z := w64 (by omega) (by omega)
  by_cases hl0 : l < 0
  · rw [chk_no fun p => by have := p.l0; omega]
    refine Ev.step (f := fun _ => some 1) (fun q => ?_) (Ev.now _)
    simp only [bucketlineref07_Check.j0, hl0, if_true]
  · by_cases hl1 : l > k * z
    · rw [chk_no fun p => by have := p.l1; omega]
      refine Ev.step (f := fun _ => some 1) (fun q => ?_) (Ev.now _)
      simp only [bucketlineref07_Check.j0, hl0, if_false, hw, hl1, if_true]
    · refine Ev.step (f := fun q => (bucketlineref01_Valid.f q k v).bind fun t157 => (if t157 = true then ((bucketlineref01_Count.f q v).bind fun t158 => (if t158 = 0 then (some 1) else (if (d.size : Int) = z then (some 0) else (some 1)))) else (some 1))) (fun q => ?_) (Ev.bind (ref_Valid hu k) ?_)
      · simp only [bucketlineref07_Check.j0, hl0, if_false, hw, hl1, if_true]
      · by_cases hv : validB k v = true
        · simp only [hv, if_true]
          refine Ev.bind (ref_Count hu hl) ?_
          by_cases h0' : val v = 0
          · rw [chk_no fun p => p.nz h0', h0', cnt_zero]
            simp only [Int.natCast_zero, if_true]; exact Ev.now _
          · have : ¬ ((cnt (val v) : Nat) : Int) = 0 := fun h => h0' (cnt_eq_zero (by omega))
            simp only [this, if_false]
            by_cases hd : (d.size : Int) = z
            · rw [chk_yes ⟨o0, o1, hs, h0, h1, by omega, by omega, hd, hv, h0'⟩]; simp only [hd, if_true]; exact Ev.now _
            · rw [chk_no fun p => hd p.dz]; simp only [hd, if_false]; exact Ev.now _
        · rw [chk_no fun p => hv p.va]; simp only [hv, if_false]; exact Ev.now _
theorem rCheck (o l k z h : Int) {v : List Int} (d : ByteArray) (hu : U v) (hl : v.length < 17592186044416) : Ev (fun q => bucketlineref07_Check.f q o l k z h v d) (chk o l k z h v d) := by
  unfold bucketlineref07_Check.f
  by_cases h1 : o ≥ 0
  · by_cases h2 : o ≤ 4294967295
    · simp only [h1, h2, if_true, rsizes_f, Option.bind_some]
      by_cases hs : sizesB k z = true
      · simp only [hs, if_true]
        by_cases h3 : h ≥ 0
        · simp only [h3, if_true]
          by_cases h4 : h ≤ 15
          · rw [decide_eq_true h4]; exact rj0_yes hu hl hs (by omega) (by omega) (by omega) (by omega)
          · rw [chk_no fun p => by have := p.h1; omega, decide_eq_false h4]; exact rj0_no _ _ _ _ _ _ _
        · rw [chk_no fun p => by have := p.h0; omega]; simp only [h3, if_false]; exact rj0_no _ _ _ _ _ _ _
      · rw [chk_no fun p => hs p.kz]; simp only [hs, if_false]; exact rj0_no _ _ _ _ _ _ _
    · rw [chk_no fun p => by have := p.o1; omega]; simp only [h1, if_true, h2, if_false]; exact rj0_no _ _ _ _ _ _ _
  · rw [chk_no fun p => by have := p.o0; omega]; simp only [h1, if_false]; exact rj0_no _ _ _ _ _ _ _
/-- A packet's bytes. -/
def encB (o l k z h : Int) (v : List Int) (d : ByteArray) : ByteArray :=
  ((((((strOfNums (putL o 4) ++ strOfNums (putL l 4)) ++ strOfNums (putL k 1)) ++ strOfNums (putL z 1)) ++ strOfNums (putL h 1)) ++ strOfNums (bytesV v)) ++ d)
open Classical in
noncomputable def encR (o l k z h : Int) (v : List Int) (d : ByteArray) : ByteArray × Int := if OkP o l k z h v d then (encB o l k z h v d, 0) else (⟨#[]⟩, 1)
/-- What Decode answers. -/
abbrev PT := Int × Int × Int × Int × Int × List Int × ByteArray × Int
def no2 : PT := (0, 0, 0, 0, 0, [], ⟨#[]⟩, 2)
def no3 : PT := (0, 0, 0, 0, 0, [], ⟨#[]⟩, 3)
def dO (s : ByteArray) : Int := (getR s 4).1
def dL (s : ByteArray) : Int := (getR (s.extract 4 s.size) 4).1
def dV (s : ByteArray) : List Int := (getvR (s.extract 11 s.size) (bt s 8)).1
def dD (s : ByteArray) : ByteArray := s.extract (11 + 8 * sizeZ (bt s 8)).toNat s.size
def dOk (s : ByteArray) : Prop := OkP (dO s) (dL s) (bt s 8) (bt s 9) (bt s 10) (dV s) (dD s)
open Classical in
noncomputable def dec (s : ByteArray) : PT :=
  if (s.size : Int) < 11 then no2 else if sizesB (bt s 8) (bt s 9) = true then (if (s.size : Int) < 11 + 8 * sizeZ (bt s 8) + bt s 9 then no2 else if dOk s then (dO s, dL s, bt s 8, bt s 9, bt s 10, dV s, dD s, 0) else no3) else no3
theorem dec_short {s : ByteArray} (h : (s.size : Int) < 11) : dec s = no2 := by unfold dec; rw [if_pos h]
theorem dec_syn {s : ByteArray} (h : ¬ (s.size : Int) < 11) (h2 : ¬ sizesB (bt s 8) (bt s 9) = true) : dec s = no3 := by unfold dec; rw [if_neg h, if_neg h2]
theorem dec_size {s : ByteArray} (h : ¬ (s.size : Int) < 11) (h2 : sizesB (bt s 8) (bt s 9) = true) (h3 : (s.size : Int) < 11 + 8 * sizeZ (bt s 8) + bt s 9) : dec s = no2 := by unfold dec; rw [if_neg h, if_pos h2, if_pos h3]
theorem dec_ok {s : ByteArray} (h : ¬ (s.size : Int) < 11) (h2 : sizesB (bt s 8) (bt s 9) = true) (h3 : ¬ (s.size : Int) < 11 + 8 * sizeZ (bt s 8) + bt s 9) (h4 : dOk s) : dec s = (dO s, dL s, bt s 8, bt s 9, bt s 10, dV s, dD s, 0) := by unfold dec; rw [if_neg h, if_pos h2, if_neg h3, if_pos h4]
theorem dec_bad {s : ByteArray} (h : ¬ (s.size : Int) < 11) (h2 : sizesB (bt s 8) (bt s 9) = true) (h3 : ¬ (s.size : Int) < 11 + 8 * sizeZ (bt s 8) + bt s 9) (h4 : ¬ dOk s) : dec s = no3 := by unfold dec; rw [if_neg h, if_pos h2, if_neg h3, if_neg h4]
theorem wbt (s : ByteArray) (i : Int) : wrap64 (bt s i) = bt s i := by have := bt_range s i; exact w64 (by omega) (by omega)
theorem dV_U (s : ByteArray) : U (dV s) := getvR_U _ _
theorem dV_len (s : ByteArray) : (dV s).length ≤ 2 := getvR_len _ _
theorem Decode (s : ByteArray) : Ev (fun q => packet_Decode.f q s) (dec s) := by
  unfold packet_Decode.f
  by_cases h1 : (s.size : Int) < 11
  · rw [dec_short h1]; simp only [h1, if_true]; exact Ev.now _
  · have a8 : (8 : Int) < (s.size : Int) := by omega
    have a9 : (9 : Int) < (s.size : Int) := by omega
    have a10 : (10 : Int) < (s.size : Int) := by omega
    have a4 : (4 : Int) ≤ (s.size : Int) := by omega
    have a11 : (11 : Int) ≤ (s.size : Int) := by omega
    have hz := sizeZ_nn (bt s 8)
    have h9 := bt_range s 9
    have w1 : wrap64 (8 * sizeZ (bt s 8)) = 8 * sizeZ (bt s 8) := w64 (by omega) (by omega)
    have w2 : wrap64 (11 + 8 * sizeZ (bt s 8)) = 11 + 8 * sizeZ (bt s 8) := w64 (by omega) (by omega)
    have w3 : wrap64 (11 + 8 * sizeZ (bt s 8) + bt s 9) = 11 + 8 * sizeZ (bt s 8) + bt s 9 := w64 (by omega) (by omega)
    simp only [h1, if_false, a8, a9, if_true, wbt, sizes_f, Option.bind_some]
    by_cases h2 : sizesB (bt s 8) (bt s 9) = true
    · simp only [h2, if_true, words_Size, Option.bind_some, w1, w2, w3]
      by_cases h3 : (s.size : Int) < 11 + 8 * sizeZ (bt s 8) + bt s 9
      · rw [dec_size h1 h2 h3]; simp only [h3, if_true]; exact Ev.now _
      · simp only [h3, if_false, a10, if_true]
        refine Ev.bind (Get s (by decide)) ?_
        simp only [a4, if_true]
        refine Ev.bind (Get _ (by decide)) ?_
        simp only [a11, if_true]
        refine Ev.bind (GetVec _ _) ?_
        have b1 : 0 ≤ 11 + 8 * sizeZ (bt s 8) := by omega
        have b2 : 11 + 8 * sizeZ (bt s 8) ≤ (s.size : Int) := by omega
        simp only [b1, b2, if_true]
        have hc := Check (dO s) (dL s) (bt s 8) (bt s 9) (bt s 10) (dD s) (dV_U s) (Nat.le_trans (dV_len s) (by decide))
        by_cases h4 : dOk s
        · rw [dec_ok h1 h2 h3 h4]; rw [chk_yes h4] at hc; refine Ev.bind hc ?_; simp only [if_true]; exact Ev.now _
        · rw [dec_bad h1 h2 h3 h4]; rw [chk_no h4] at hc; refine Ev.bind hc ?_; simp only [show ¬ (1 : Int) = 0 by decide, if_false]; exact Ev.now _
    · rw [dec_syn h1 h2]; simp only [h2, if_false]; exact Ev.now _
theorem getvR_err {s : ByteArray} {k : Int} (h : ¬ (getvR s k).2 = 0) : (getvR s k).1 = [] := by
  unfold getvR at h ⊢
  split
  · rfl
  · rename_i h1
    rw [if_neg h1] at h
    split
    · rfl
    · rename_i h2
      rw [if_neg h2] at h
      split
      · rename_i h3; rw [if_pos h3] at h; exact absurd rfl h
      · rfl
theorem validB_nil (k : Int) : validB k [] = false := by
  unfold validB; rw [decide_eq_false_iff_not]; rintro ⟨a, b, c, d⟩
  simp at c; omega
theorem rDecode (s : ByteArray) : Ev (fun q => bucketlineref07_Decode.f q s) (dec s) := by
  unfold bucketlineref07_Decode.f
  by_cases h1 : (s.size : Int) < 11
  · rw [dec_short h1]; simp only [h1, if_true]; exact Ev.now _
  · have a8 : (8 : Int) < (s.size : Int) := by omega
    have a9 : (9 : Int) < (s.size : Int) := by omega
    have a10 : (10 : Int) < (s.size : Int) := by omega
    have a4 : (4 : Int) ≤ (s.size : Int) := by omega
    have a11 : (11 : Int) ≤ (s.size : Int) := by omega
    have hz := sizeZ_nn (bt s 8)
    have h9 := bt_range s 9
    have w1 : wrap64 (8 * sizeZ (bt s 8)) = 8 * sizeZ (bt s 8) := w64 (by omega) (by omega)
    have w2 : wrap64 (11 + 8 * sizeZ (bt s 8)) = 11 + 8 * sizeZ (bt s 8) := w64 (by omega) (by omega)
    have w3 : wrap64 (11 + 8 * sizeZ (bt s 8) + bt s 9) = 11 + 8 * sizeZ (bt s 8) + bt s 9 := w64 (by omega) (by omega)
    simp only [h1, if_false]
    refine Ev.bind (rGet s (by decide)) ?_
    simp only [a4, if_true]
    refine Ev.bind (rGet _ (by decide)) ?_
    simp only [a8, a9, a10, if_true, wbt, rsizes_f, Option.bind_some]
    by_cases h2 : sizesB (bt s 8) (bt s 9) = true
    · simp only [h2, if_true]
      refine Ev.bind (ref_Size _) ?_
      simp only [w1, w2, w3]
      by_cases h3 : (s.size : Int) < 11 + 8 * sizeZ (bt s 8) + bt s 9
      · rw [dec_size h1 h2 h3]; simp only [h3, if_true]; exact Ev.now _
      · simp only [h3, if_false, a11, if_true]
        refine Ev.bind (rGetVec _ _) ?_
        have b1 : 0 ≤ 11 + 8 * sizeZ (bt s 8) := by omega
        have b2 : 11 + 8 * sizeZ (bt s 8) ≤ (s.size : Int) := by omega
        simp only [b1, b2, if_true]
        by_cases h5 : (getvR (s.extract 11 s.size) (bt s 8)).2 = 0
        · simp only [h5, if_true]
          have hc := rCheck (dO s) (dL s) (bt s 8) (bt s 9) (bt s 10) (dD s) (dV_U s) (Nat.lt_of_le_of_lt (dV_len s) (by decide))
          by_cases h4 : dOk s
          · rw [dec_ok h1 h2 h3 h4]; rw [chk_yes h4] at hc; refine Ev.bind hc ?_; simp only [if_true]; exact Ev.now _
          · rw [dec_bad h1 h2 h3 h4]; rw [chk_no h4] at hc; refine Ev.bind hc ?_; simp only [show ¬ (1 : Int) = 0 by decide, if_false]; exact Ev.now _
        · simp only [h5, if_false]
          rw [dec_bad h1 h2 h3 fun p => by
            have := p.va
            unfold dV at this
            rw [getvR_err h5, validB_nil] at this
            cases this]
          exact Ev.now _
    · rw [dec_syn h1 h2]; simp only [h2, if_false]; exact Ev.now _
/-- Are two packets the same? -/
def sameB (o l k z h : Int) (v : List Int) (d : ByteArray) (o' l' k' z' h' : Int) (v' : List Int) (d' : ByteArray) : Bool := decide (o = o' ∧ l = l' ∧ k = k' ∧ z = z' ∧ h = h' ∧ val v = val v') && (d.toList == d'.toList)
theorem rSame2 {v : List Int} (d : ByteArray) {v' : List Int} (d' : ByteArray) (hu : U v) (hu' : U v') (hl : v.length < 17592186044416) (hl' : v'.length < 17592186044416) : Ev (fun q => bucketlineref02_Same.f q v d v' d') (decide (val v = val v') && (d.toList == d'.toList)) := by
  unfold bucketlineref02_Same.f
  refine Ev.bind (ref_Same hu hu' hl hl') ?_
  by_cases hv : val v = val v'
  · simp only [hv, decide_true, if_true, Bool.true_and]; exact Ev.now _
  · simp only [hv, decide_false, if_false, Bool.false_and, Bool.false_eq_true]; exact Ev.now _
theorem rSame7 (o l k z h : Int) {v : List Int} (d : ByteArray) (o' l' k' z' h' : Int) {v' : List Int} (d' : ByteArray) (hu : U v) (hu' : U v') (hl : v.length < 17592186044416) (hl' : v'.length < 17592186044416) : Ev (fun q => bucketlineref07_Same.f q o l k z h v d o' l' k' z' h' v' d') (sameB o l k z h v d o' l' k' z' h' v' d') := by
  unfold bucketlineref07_Same.f bucketlineref07_Alike.f sameB
  by_cases e1 : o = o'
  · by_cases e2 : l = l'
    · by_cases e3 : k = k'
      · by_cases e4 : z = z'
        · by_cases e5 : h = h'
          · subst e1 e2 e3 e4 e5
            simp only [if_true, beq_self_eq_true, Option.bind_some, true_and]
            exact Ev.bind (rSame2 d d' hu hu' hl hl') (Ev.now _)
          · simp only [e1, e2, e3, e4, e5, if_true, if_false, beq_self_eq_true, Option.bind_some, false_and, and_false, decide_false, Bool.false_and]; exact Ev.now _
        · have : (z == z') = false := by simpa using e4
          simp only [e1, e2, e3, e4, this, if_true, if_false, Option.bind_some, false_and, and_false, decide_false, Bool.false_and, Bool.false_eq_true]; exact Ev.now _
      · simp only [e1, e2, e3, if_true, if_false, Option.bind_some, false_and, and_false, decide_false, Bool.false_and, Bool.false_eq_true]; exact Ev.now _
    · simp only [e1, e2, if_true, if_false, Option.bind_some, false_and, and_false, decide_false, Bool.false_and, Bool.false_eq_true]; exact Ev.now _
  · simp only [e1, if_false, Option.bind_some, false_and, decide_false, Bool.false_and, Bool.false_eq_true]; exact Ev.now _
end Go.Proofs.YtbcphdbcdjdfpaaDoor.S
