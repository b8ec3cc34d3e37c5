/- What the printed functions of nums and of its reference come to. -/
import Derived.Test.YtbcphdbcdjdfpaaDoorZDM3
import Derived.Test.YtbcphdbcdjdfpaaDoorZDSr
import Derived.Test.YtbcphdbcdjdfpaaDoorZDP4
import Derived.Test.YtbcphdbcdjdfpaaDoorZDP8
import Derived.Test.YtbcphdbcdjdfpaaDoorZDP0
import Derived.Test.YtbcphdbcdjdfpaaDoorZDP15
import Derived.Test.YtbcphdbcdjdfpaaDoorZDP20
namespace Go.Proofs.YtbcphdbcdjdfpaaDoor.S
open Go.RowKit Go.Proofs.YtbcphdbcdjdfpaaDoor.P Go.Proofs.YtbcphdbcdjdfpaaDoorW.PrintWords Go.Proofs.YtbcphdbcdjdfpaaDoorW.PrintLast Go.Proofs.YtbcphdbcdjdfpaaDoorW.PrintMore Go.Proofs.YtbcphdbcdjdfpaaDoor.M
set_option linter.unusedVariables false
set_option linter.unusedSimpArgs false
/-- A number's bytes. -/
def putL (n w : Int) : List Int := if w = 1 then [n % 256] else if w = 2 then [n / 256 % 256, n % 256] else if w = 4 then [n / 16777216 % 256, n / 65536 % 256, n / 256 % 256, n % 256] else []
/-- What Get answers. -/
def getR (s : ByteArray) (w : Int) : Int × Int := if w = 1 ∨ w = 2 ∨ w = 4 then (if (s.size : Int) < w then (0, 2) else ((bePart s 0 w.toNat : Nat), 0)) else (0, 1)
theorem getR_yes (s : ByteArray) {w : Int} (h : w = 1 ∨ w = 2 ∨ w = 4) : getR s w = if (s.size : Int) < w then (0, 2) else (((bePart s 0 w.toNat : Nat) : Int), 0) := by unfold getR; rw [if_pos h]
theorem getR_no (s : ByteArray) {w : Int} (h : ¬ (w = 1 ∨ w = 2 ∨ w = 4)) : getR s w = (0, 1) := by unfold getR; rw [if_neg h]
theorem pow_le4 {t : Nat} (h : t ≤ 4) : 256 ^ t ≤ 4294967296 := by
  have : (256 : Nat) ^ t ≤ 256 ^ 4 := Nat.pow_le_pow_right (by decide) h
  simpa using this
theorem Get_loop (s : ByteArray) (w : Nat) (hw : w ≤ 4) (hs : w ≤ s.size) (d : Nat) : ∀ t : Nat, t + d = w → Ev (fun q => nums_Get.l0 q s ((bePart s 0 t : Nat) : Int) (w : Int) (t : Int)) (((bePart s 0 w : Nat) : Int), 0) := by
  induction d with
  | zero =>
    intro t ht
    refine Ev.step (f := fun _ => some (((bePart s 0 w : Nat) : Int), 0)) (fun q => ?_) (Ev.now _)
    simp only [nums_Get.l0]
    rw [if_neg (by omega), show t = w by omega]
  | succ d ih =>
    intro t ht
    refine Ev.step (fun q => ?_) (ih (t + 1) (by omega))
    have h1 := bePart_lt s 0 t
    have h2 := pow_le4 (t := t) (by omega)
    simp only [nums_Get.l0]
    rw [if_pos (by omega), if_pos (by omega), if_pos (by omega), or_byte _ _ _ (by omega), w64 (by omega) (by omega), bePart, Nat.zero_add]
    rw [show (t : Int) + 1 = ((t + 1 : Nat) : Int) by omega]
theorem Get (s : ByteArray) {w : Int} (hw : (Lit.int .i64 w).wf = true) : Ev (fun q => nums_Get.f q s w) (getR s w) := by
  have hw := i64_of_wf hw
  unfold nums_Get.f
  have key : ∀ v : Int, v = 1 ∨ v = 2 ∨ v = 4 → Ev (fun q => nums_Get.j0 q s v false) (if (s.size : Int) < v then (0, 2) else (((bePart s 0 v.toNat : Nat) : Int), 0)) := by
    intro v hv
    by_cases h : (s.size : Int) < v
    · rw [if_pos h]
      refine Ev.step (f := fun _ => some (0, 2)) (fun q => ?_) (Ev.now _)
      simp only [nums_Get.j0, Bool.false_eq_true, if_false, h, if_true]
    · rw [if_neg h]
      have := Get_loop s v.toNat (by omega) (by omega) v.toNat 0 (by omega)
      rw [show ((v.toNat : Nat) : Int) = v by omega] at this
      refine Ev.step (fun q => ?_) this
      simp only [nums_Get.j0, Bool.false_eq_true, if_false, h, bePart, Int.natCast_zero]
  by_cases h1 : w = 1
  · subst h1; rw [getR_yes s (by omega)]; simpa using key 1 (by omega)
  · by_cases h2 : w = 2
    · subst h2; rw [getR_yes s (by omega)]; simpa using key 2 (by omega)
    · by_cases h4 : w = 4
      · subst h4; rw [getR_yes s (by omega)]; simpa using key 4 (by omega)
      · rw [getR_no s (by omega)]
        simp only [h1, h2, if_false]
        refine Ev.step (f := fun _ => some (0, 1)) (fun q => ?_) (Ev.now _)
        simp [nums_Get.j0, h4]
theorem rGet_loop (s : ByteArray) (w : Nat) (hw : w ≤ 4) (hs : w ≤ s.size) (d : Nat) : ∀ t : Nat, t + d = w → Ev (fun q => bucketlineref06_Get.l0 q s (w : Int) ((bePart s 0 t : Nat) : Int) (t : Int)) (((bePart s 0 w : Nat) : Int), 0) := by
  induction d with
  | zero =>
    intro t ht
    refine Ev.step (f := fun _ => some (((bePart s 0 w : Nat) : Int), 0)) (fun q => ?_) (Ev.now _)
    simp only [bucketlineref06_Get.l0]
    rw [if_neg (by omega), show t = w by omega]
  | succ d ih =>
    intro t ht
    refine Ev.step (fun q => ?_) (ih (t + 1) (by omega))
    have h1 := bePart_lt s 0 t
    have h2 := pow_le4 (t := t) (by omega)
    obtain ⟨b, eb, hb⟩ := bt_nat s (t : Int)
    simp only [bucketlineref06_Get.l0]
    rw [if_pos (by omega), if_pos (by omega), if_pos (by omega), bePart, Nat.zero_add, eb, Int.toNat_natCast, w64 (x := (b : Int)) (by omega) (by omega), w64 (x := 256 * ((bePart s 0 t : Nat) : Int)) (by omega) (by omega), w64 (by omega) (by omega), w64 (by omega) (by omega)]
    rw [show 256 * ((bePart s 0 t : Nat) : Int) + (b : Int) = ((bePart s 0 t * 256 + b : Nat) : Int) by omega, show (t : Int) + 1 = ((t + 1 : Nat) : Int) by omega]
theorem rGet (s : ByteArray) {w : Int} (hw : (Lit.int .i64 w).wf = true) : Ev (fun q => bucketlineref06_Get.f q s w) (getR s w) := by
  have hw := i64_of_wf hw
  have key : ∀ v : Int, v = 1 ∨ v = 2 ∨ v = 4 → Ev (fun q => if (s.size : Int) < v then some (0, 2) else bucketlineref06_Get.l0 q s v 0 0) (if (s.size : Int) < v then (0, 2) else (((bePart s 0 v.toNat : Nat) : Int), 0)) := by
    intro v hv
    by_cases h : (s.size : Int) < v
    · simp only [h, if_true]; exact Ev.now _
    · simp only [h, if_false]
      have := rGet_loop s v.toNat (by omega) (by omega) v.toNat 0 (by omega)
      rw [show ((v.toNat : Nat) : Int) = v by omega] at this
      simpa [bePart] using this
  unfold bucketlineref06_Get.f bucketlineref06_width.f
  by_cases h1 : w = 1
  · subst h1; rw [getR_yes s (by omega)]; simpa using key 1 (by omega)
  · by_cases h2 : w = 2
    · subst h2; rw [getR_yes s (by omega)]; simpa using key 2 (by omega)
    · by_cases h4 : w = 4
      · subst h4; rw [getR_yes s (by omega)]; simpa using key 4 (by omega)
      · rw [getR_no s (by omega)]
        have h5 : ¬ ((w == 4) = true) := by simpa using h4
        simp only [h1, h2, if_false, Option.bind_some, h5]
        exact Ev.now _
/-! rows -/
/-- What GetVec answers. -/
def getvR (s : ByteArray) (k : Int) : List Int × Int :=
  if sizeZ k = 0 then ([], 1) else if (s.size : Int) < 8 * sizeZ k then ([], 2) else if validB k (beWords s (sizeZ k).toNat) = true then (beWords s (sizeZ k).toNat, 0) else ([], 3)
theorem getvR_U (s : ByteArray) (k : Int) : U (getvR s k).1 := by
  unfold getvR
  split
  · exact U.nil
  · split
    · exact U.nil
    · split
      · exact beWords_U _ _
      · exact U.nil
theorem getvR_len (s : ByteArray) (k : Int) : (getvR s k).1.length ≤ 2 := by
  have := sizeZ_nn k
  unfold getvR
  split
  · simp
  · split
    · simp
    · split
      · rw [beWords_length]; omega
      · simp
theorem GetVec_loop (s : ByteArray) (k : Int) (n : Nat) (hn : n ≤ 2) (hs : 8 * n ≤ s.size) (d : Nat) : ∀ t : Nat, t + d = 8 * n → Ev (fun q => nums_GetVec.l0 q s k (beWordsAt s n t) ((8 * n : Nat) : Int) (t : Int)) (if validB k (beWords s n) = true then (beWords s n, 0) else ([], 3)) := by
  induction d with
  | zero =>
    intro t ht
    refine Ev.step (f := fun _ => some (if validB k (beWords s n) = true then (beWords s n, 0) else ([], 3))) (fun q => ?_) (Ev.now _)
    simp only [nums_GetVec.l0]
    rw [if_neg (by omega), show t = 8 * n by omega, beWordsAt_full, words_Valid (beWords_U s n)]
    simp only [Option.bind_some]
    split <;> rfl
  | succ d ih =>
    intro t ht
    have h := ih (t + 1) (by omega)
    have h1 := bePart_lt s (8 * (t / 8)) (t % 8)
    have h2 : (256 : Nat) ^ (t % 8) ≤ 256 ^ 7 := Nat.pow_le_pow_right (by decide) (by omega)
    simp only [Nat.reducePow] at h2
    have hd : wrap64 (Int.tdiv (t : Int) 8) = ((t / 8 : Nat) : Int) := by rw [Int.tdiv_eq_ediv_of_nonneg (by omega), w64 (by omega) (by omega)]; omega
    rw [← beWordsAt_step s n t (by omega)] at h
    refine Ev.step (fun q => ?_) h
    simp only [nums_GetVec.l0]
    rw [if_pos (by omega), hd, if_pos (by omega), if_pos (by rw [beWordsAt_length]; omega), if_pos (by omega), if_pos (by omega), rd_nat, beWordsAt_getD _ _ _ _ (by omega), show min 8 (t - 8 * (t / 8)) = t % 8 by omega, or_byte64 _ _ _ (by omega), Int.toNat_natCast, w64 (by omega) (by omega)]
    rw [show (t : Int) + 1 = ((t + 1 : Nat) : Int) by omega]
theorem GetVec (s : ByteArray) (k : Int) : Ev (fun q => nums_GetVec.f q s k) (getvR s k) := by
  unfold nums_GetVec.f getvR
  rw [words_Size]
  have hz := sizeZ_nn k
  simp only [Option.bind_some]
  by_cases h0 : sizeZ k = 0
  · simp only [h0, if_true]; exact Ev.now _
  · rw [w64 (by omega) (by omega)]
    simp only [h0, if_false]
    by_cases h1 : (s.size : Int) < 8 * sizeZ k
    · simp only [h1, if_true]; exact Ev.now _
    · have h2 : 0 ≤ sizeZ k := hz.1
      have h3 : (sizeZ k).toNat ≤ 35184372088832 := by omega
      simp only [h1, if_false, h2, if_true, h3]
      have := GetVec_loop s k (sizeZ k).toNat (by omega) (by omega) _ 0 (Nat.zero_add _)
      rw [beWordsAt_zero, show ((8 * (sizeZ k).toNat : Nat) : Int) = 8 * sizeZ k by omega] at this
      exact this
theorem rGetVec_word (s : ByteArray) (k n : Int) (v : List Int) (i : Nat) (hi : i < 2) (hv : v.length ≤ 10) (hs : 8 * i + 8 ≤ s.size) {r : List Int × Int} (d : Nat) : ∀ j : Nat, j + d = 8 → Ev (fun q => bucketlineref06_GetVec.l0 q s k n (v ++ [((bePart s (8 * i) 8 : Nat) : Int)]) (((i + 1 : Nat)) : Int)) r → Ev (fun q => bucketlineref06_GetVec.l1 q s k n v (i : Int) ((bePart s (8 * i) j : Nat) : Int) (j : Int)) r := by
  induction d with
  | zero =>
    intro j hj h
    refine Ev.step (fun q => ?_) h
    simp only [bucketlineref06_GetVec.l1]
    rw [if_neg (by omega), if_pos (by omega), w64 (by omega) (by omega), show j = 8 by omega]
    rw [show (i : Int) + 1 = ((i + 1 : Nat) : Int) by omega]
  | succ d ih =>
    intro j hj h
    have h1 := bePart_lt s (8 * i) j
    have h2 : (256 : Nat) ^ j ≤ 256 ^ 7 := Nat.pow_le_pow_right (by decide) (by omega)
    simp only [Nat.reducePow] at h2
    refine Ev.step (fun q => ?_) (ih (j + 1) (by omega) h)
    simp only [bucketlineref06_GetVec.l1]
    rw [if_pos (by omega), w64 (x := 8 * (i : Int)) (by omega) (by omega), w64 (x := 8 * (i : Int) + (j : Int)) (by omega) (by omega), if_pos (by omega), if_pos (by omega), or_byte64 _ _ _ (by omega), w64 (by omega) (by omega), bePart, show 8 * (i : Int) + (j : Int) = ((8 * i + j : Nat) : Int) by omega]
    rw [show (j : Int) + 1 = ((j + 1 : Nat) : Int) by omega]
theorem beWords_succ (s : ByteArray) (n : Nat) : beWords s (n + 1) = beWords s n ++ [((bePart s (8 * n) 8 : Nat) : Int)] := by
  simp [beWords, List.range_succ]
theorem rGetVec_loop (s : ByteArray) (k : Int) (n : Nat) (hn : n ≤ 2) (hs : 8 * n ≤ s.size) (d : Nat) : ∀ i : Nat, i + d = n → Ev (fun q => bucketlineref06_GetVec.l0 q s k (n : Int) (beWords s i) (i : Int)) (if validB k (beWords s n) = true then (beWords s n, 0) else ([], 3)) := by
  induction d with
  | zero =>
    intro i hi
    have hv := ref_Valid (beWords_U s n) k
    refine Ev.step (f := fun q => (bucketlineref01_Valid.f q k (beWords s n)).bind fun t => if t = true then some (beWords s n, 0) else some ([], 3)) (fun q => ?_) (Ev.bind hv ?_)
    · simp only [bucketlineref06_GetVec.l0]
      rw [if_neg (by omega), show i = n by omega]
    · split <;> exact Ev.now _
  | succ d ih =>
    intro i hi
    have h := ih (i + 1) (by omega)
    rw [beWords_succ] at h
    have h := rGetVec_word s k (n : Int) (beWords s i) i (by omega) (by rw [beWords_length]; omega) (by omega) 8 0 (by omega) h
    refine Ev.step (fun q => ?_) h
    simp only [bucketlineref06_GetVec.l0, bePart]
    rw [if_pos (by omega)]
    rfl
theorem rGetVec (s : ByteArray) (k : Int) : Ev (fun q => bucketlineref06_GetVec.f q s k) (getvR s k) := by
  unfold bucketlineref06_GetVec.f getvR
  have hz := sizeZ_nn k
  refine Ev.bind (ref_Size k) ?_
  by_cases h0 : sizeZ k = 0
  · simp only [h0, if_true]; exact Ev.now _
  · rw [w64 (by omega) (by omega)]
    simp only [h0, if_false]
    by_cases h1 : (s.size : Int) < 8 * sizeZ k
    · simp only [h1, if_true]; exact Ev.now _
    · simp only [h1, if_false]
      have := rGetVec_loop s k (sizeZ k).toNat (by omega) (by omega) _ 0 (Nat.zero_add _)
      rw [show (((sizeZ k).toNat : Nat) : Int) = sizeZ k by omega] at this
      exact this
end Go.Proofs.YtbcphdbcdjdfpaaDoor.S
