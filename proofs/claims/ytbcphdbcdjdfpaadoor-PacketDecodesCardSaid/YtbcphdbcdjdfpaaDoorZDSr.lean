/- What the printed functions words.Size, words.Valid and the reference's Size, Get, Valid, Xor, Count, Same, Words come to. -/
import Derived.Test.YtbcphdbcdjdfpaaDoorZDM2
import Derived.Test.YtbcphdbcdjdfpaaDoorZDP2
import Derived.Test.YtbcphdbcdjdfpaaDoorZDP6
import Derived.Test.YtbcphdbcdjdfpaaDoorZDP7
import Derived.Test.YtbcphdbcdjdfpaaDoorZDP18
namespace Go.Proofs.YtbcphdbcdjdfpaaDoor.S
open Go.RowKit Go.Proofs.YtbcphdbcdjdfpaaDoor.P Go.Proofs.YtbcphdbcdjdfpaaDoorW.PrintWords Go.Proofs.YtbcphdbcdjdfpaaDoorW.PrintLast Go.Proofs.YtbcphdbcdjdfpaaDoorW.PrintMore Go.Proofs.YtbcphdbcdjdfpaaDoor.M
set_option linter.unusedVariables false
set_option linter.unusedSimpArgs false
/-- How many words blocks have. -/
def sizeZ (k : Int) : Int := if 1 ≤ k ∧ k ≤ 128 then (k + 63) / 64 else 0
theorem sizeZ_nn (k : Int) : 0 ≤ sizeZ k ∧ sizeZ k ≤ 2 := by unfold sizeZ; split <;> omega
theorem words_Size (k : Int) : words_Size.f k = some (sizeZ k) := by
  unfold words_Size.f sizeZ
  by_cases h1 : k < 1
  · rw [if_pos h1, if_neg (by omega)]
  · by_cases h2 : k > 128
    · rw [if_neg h1, if_pos h2, if_neg (by omega)]
    · rw [if_neg h1, if_neg h2, if_pos (by omega), show wrap64 (k + 63) = k + 63 from w64 (by omega) (by omega), Int.tdiv_eq_ediv_of_nonneg (by omega), w64 (by omega) (by omega)]
theorem size_round {k n : Int} (hk : k ≤ 128) (hn : 0 ≤ n) (h : n < 3) (q : Nat) : bucketlineref01_Size.l0 (q + 1) k n = if 64 * n < k then bucketlineref01_Size.l0 q k (n + 1) else some n := by
  simp only [bucketlineref01_Size.l0]
  rw [w64 (by omega) (by omega), w64 (by omega) (by omega)]
theorem ref_Size (k : Int) : Ev (fun q => bucketlineref01_Size.f q k) (sizeZ k) := by
  refine ⟨8, fun q hq => ?_⟩
  obtain ⟨q, rfl⟩ : ∃ m, q = m + 4 := ⟨q - 4, by omega⟩
  show bucketlineref01_Size.f (q + 4) k = _
  unfold bucketlineref01_Size.f sizeZ
  by_cases h1 : k < 1
  · rw [if_pos h1, if_neg (by omega)]; simp [bucketlineref01_Size.j0]
  · by_cases h2 : k > 128
    · rw [if_neg h1, if_neg (by omega)]; simp [bucketlineref01_Size.j0, h2]
    · rw [if_neg h1, if_pos (by omega)]
      simp only [bucketlineref01_Size.j0, h2, decide_false, Bool.false_eq_true, if_false]
      rw [size_round (by omega) (by omega) (by omega), if_pos (by omega), size_round (by omega) (by omega) (by omega)]
      by_cases h3 : k ≤ 64
      · rw [if_neg (by omega)]; congr 1; omega
      · rw [if_pos (by omega), size_round (by omega) (by omega) (by omega), if_neg (by omega)]; congr 1; omega
/-- Is a bit set? -/
def getB (l : List Int) (i : Int) : Bool := decide (0 ≤ i) && (val l).testBit i.toNat
theorem and1 {y : Nat} (h : y < 18446744073709551616) : Go.bits .and .u64 (y : Int) 1 = ((y &&& 1 : Nat) : Int) := by
  have := and64 (a := (y : Int)) (b := 1) ⟨by omega, by omega⟩ (by decide)
  rwa [Int.toNat_natCast] at this
theorem word_bit {x i : Nat} : (((x / 2 ^ i) &&& 1 : Nat) : Int) = 1 ↔ x.testBit i = true := by
  rw [Nat.and_one_is_mod, Nat.testBit_eq_decide_div_mod_eq]
  simp only [decide_eq_true_eq]
  omega
theorem shr_nat (x i : Nat) (hi : i ≤ 64) : shr .u64 (x : Int) (i : Int) = ((x / 2 ^ i : Nat) : Int) := by
  unfold shr
  rw [Int.toNat_natCast, show IntKind.u64.bits = 64 from rfl, Nat.min_eq_left hi]
  norm_cast
theorem past_len {l : List Int} (hu : U l) {i : Nat} (h : l.length ≤ i / 64) : (val l).testBit i = false := by
  rw [testBit_val hu, List.getD_eq_getElem?_getD, List.getElem?_eq_none h]; simp
theorem get_core {l : List Int} (hu : U l) (i : Nat) : (Go.bits .and .u64 (shr .u64 (rd l ((i / 64 : Nat) : Int)) ((i % 64 : Nat) : Int)) 1 == 1) = (val l).testBit i := by
  have hx := hu.getD (i / 64)
  rw [rd_nat, testBit_val hu]
  generalize l.getD (i / 64) 0 = x at *
  obtain ⟨x, rfl⟩ := Int.eq_ofNat_of_zero_le hx.1
  rw [shr_nat _ _ (by omega), and1 (Nat.lt_of_le_of_lt (Nat.div_le_self x (2 ^ (i % 64))) (by omega)), Int.toNat_natCast x]
  rw [Bool.eq_iff_iff, beq_iff_eq]
  exact word_bit
theorem ref_Get {l : List Int} (hu : U l) {i : Int} (h0 : -9223372036854775808 ≤ i) (h1 : i ≤ 9223372036854775807) : bucketlineref01_Get.f l i = some (getB l i) := by
  unfold bucketlineref01_Get.f getB
  by_cases hi : i ≥ 0
  · obtain ⟨n, rfl⟩ := Int.eq_ofNat_of_zero_le hi
    have e1 : wrap64 (Int.tdiv (n : Int) 64) = ((n / 64 : Nat) : Int) := by rw [Int.tdiv_eq_ediv_of_nonneg hi, w64 (by omega) (by omega)]; omega
    have e2 : Int.tmod (n : Int) 64 = ((n % 64 : Nat) : Int) := by rw [Int.tmod_eq_emod_of_nonneg hi]; omega
    rw [if_pos hi, e1, e2, wu64 (by omega) (by omega)]
    simp only [ge_iff_le, hi, decide_true, Bool.true_and, Int.toNat_natCast]
    by_cases h : ((n / 64 : Nat) : Int) < (l.length : Int)
    · rw [if_pos h, if_pos (by omega), if_pos (by omega), get_core hu]
    · rw [if_neg h, past_len hu (by omega)]
  · rw [if_neg hi]; simp; omega
/-- Is a row one of so many blocks? -/
def validB (k : Int) (l : List Int) : Bool := decide (1 ≤ k ∧ k ≤ 128 ∧ (l.length : Int) = (k + 63) / 64 ∧ val l < 2 ^ k.toNat)
theorem validB_len {k : Int} {l : List Int} (h : ¬ (sizeZ k > 0 ∧ (l.length : Int) = sizeZ k)) : validB k l = false := by
  unfold validB
  unfold sizeZ at h
  rw [decide_eq_false_iff_not]
  intro ⟨a, b, c, _⟩
  rw [if_pos ⟨a, b⟩] at h
  omega
theorem words_Valid {l : List Int} (hu : U l) (k : Int) : words_Valid.f k l = some (validB k l) := by
  unfold words_Valid.f
  rw [words_Size]
  simp only [Option.bind_some]
  by_cases h0 : sizeZ k > 0
  · rw [if_pos h0]
    by_cases h1 : (l.length : Int) = sizeZ k
    · rw [if_pos h1]
      have hk : 1 ≤ k ∧ k ≤ 128 := by
        unfold sizeZ at h0; split at h0
        · assumption
        · omega
      have hs : sizeZ k = (k + 63) / 64 := by unfold sizeZ; rw [if_pos hk]
      rw [hs] at h0 h1 ⊢
      have e0 : Int.tmod k 64 = k % 64 := Int.tmod_eq_emod_of_nonneg (by omega)
      rw [e0, w64 (by omega) (by omega)]
      have hv := val_lt hu
      by_cases h2 : k % 64 = 0
      · rw [if_pos h2]
        unfold validB
        rw [decide_eq_true]
        refine ⟨hk.1, hk.2, h1, ?_⟩
        have : 64 * l.length = k.toNat := by omega
        rwa [this] at hv
      · rw [if_neg h2, if_pos (by omega), if_pos (by omega), if_pos (by omega)]
        congr 1
        unfold validB
        rw [Bool.eq_iff_iff, beq_iff_eq, decide_eq_true_eq]
        obtain ⟨n, rfl⟩ := Int.eq_ofNat_of_zero_le (show 0 ≤ k by omega)
        by_cases h3 : (n : Int) ≤ 64
        · have hl : l.length = 1 := by omega
          obtain ⟨x, rfl⟩ : ∃ x, l = [x] := by
            match l, hl with
            | [x], _ => exact ⟨x, rfl⟩
          obtain ⟨hx, _⟩ := hu.cons
          rw [show ((n : Int) + 63) / 64 - 1 = ((0 : Nat) : Int) by omega, rd_nat, show (n : Int) % 64 = ((n : Nat) : Int) by omega]
          simp only [List.getD_cons_zero, val, Int.toNat_natCast]
          obtain ⟨x, rfl⟩ := Int.eq_ofNat_of_zero_le hx.1
          rw [shr_nat _ _ (by omega), Int.toNat_natCast]
          have := @Nat.div_eq_zero_iff x (2 ^ n)
          have hp : 0 < 2 ^ n := Nat.two_pow_pos n
          constructor
          · intro h
            have : x / 2 ^ n = 0 := by omega
            rw [Nat.div_eq_zero_iff] at this
            exact ⟨by omega, by omega, by simp; omega, by omega⟩
          · intro ⟨_, _, _, h⟩
            have : x / 2 ^ n = 0 := Nat.div_eq_of_lt (by omega)
            omega
        · have hl : l.length = 2 := by omega
          obtain ⟨x, y, rfl⟩ : ∃ x y, l = [x, y] := by
            match l, hl with
            | [x, y], _ => exact ⟨x, y, rfl⟩
          obtain ⟨hx, hu2⟩ := hu.cons
          obtain ⟨hy, _⟩ := hu2.cons
          obtain ⟨m, rfl⟩ : ∃ m, n = 64 + m := ⟨n - 64, by omega⟩
          rw [show (((64 + m : Nat) : Int) + 63) / 64 - 1 = ((1 : Nat) : Int) by omega, rd_nat, show ((64 + m : Nat) : Int) % 64 = ((m : Nat) : Int) by omega]
          simp only [List.getD_cons_succ, List.getD_cons_zero, val, Int.toNat_natCast]
          obtain ⟨x, rfl⟩ := Int.eq_ofNat_of_zero_le hx.1
          obtain ⟨y, rfl⟩ := Int.eq_ofNat_of_zero_le hy.1
          rw [shr_nat _ _ (by omega), Int.toNat_natCast, Int.toNat_natCast, Nat.pow_add, pow64]
          have hp : 0 < 2 ^ m := Nat.two_pow_pos m
          constructor
          · intro h
            have : y / 2 ^ m = 0 := by omega
            rw [Nat.div_eq_zero_iff] at this
            exact ⟨by omega, by omega, by simp; omega, by omega⟩
          · intro ⟨_, _, _, h⟩
            have : y / 2 ^ m = 0 := Nat.div_eq_of_lt (by omega)
            omega
    · rw [if_neg h1, validB_len (by omega)]
  · rw [if_neg h0, validB_len (by omega)]
theorem val_lt_pow {l : List Int} (n : Nat) : (∀ j, n ≤ j → (val l).testBit j = false) ↔ val l < 2 ^ n :=
  ⟨fun h => Nat.lt_pow_two_of_testBit _ fun i hi => h i hi, fun h j hj => Nat.testBit_lt_two_pow (Nat.lt_of_lt_of_le h (Nat.pow_le_pow_right (by decide) hj))⟩
theorem ref_Valid_loop {l : List Int} (hu : U l) (hl : l.length ≤ 1000) (d : Nat) : ∀ (i : Nat), i + d = 64 * l.length → Ev (fun q => bucketlineref01_Valid.l0 q l (i : Int)) (decide (val l < 2 ^ i)) := by
  induction d with
  | zero =>
    intro i hi
    refine Ev.step (f := fun _ => some (decide (val l < 2 ^ i))) (fun q => ?_) (Ev.now _)
    simp only [bucketlineref01_Valid.l0]
    rw [w64 (by omega) (by omega), if_neg (by omega), decide_eq_true]
    have := val_lt hu
    rwa [← hi, Nat.add_zero] at this
  | succ d ih =>
    intro i hi
    have := ih (i + 1) (by omega)
    by_cases hb : (val l).testBit i = true
    · refine Ev.step (f := fun _ => some (decide (val l < 2 ^ i))) (fun q => ?_) (Ev.now _)
      simp only [bucketlineref01_Valid.l0]
      rw [w64 (by omega) (by omega), if_pos (by omega), ref_Get hu (by omega) (by omega)]
      simp only [Option.bind_some, getB, Int.toNat_natCast, hb]
      rw [if_pos (by simp)]
      congr 1
      rw [eq_comm, decide_eq_false_iff_not, ← val_lt_pow]
      intro h
      rw [h i (Nat.le_refl _)] at hb
      cases hb
    · have hb' : (val l).testBit i = false := by simpa using hb
      have e : decide (val l < 2 ^ (i + 1)) = decide (val l < 2 ^ i) := by
        rw [decide_eq_decide, ← val_lt_pow, ← val_lt_pow]
        constructor
        · intro h j hj
          rcases Nat.eq_or_lt_of_le hj with rfl | hj
          · exact hb'
          · exact h j hj
        · exact fun h j hj => h j (by omega)
      rw [e] at this
      refine Ev.step (fun q => ?_) this
      simp only [bucketlineref01_Valid.l0]
      rw [w64 (by omega) (by omega), if_pos (by omega), ref_Get hu (by omega) (by omega)]
      simp only [Option.bind_some, getB, Int.toNat_natCast, hb']
      rw [if_neg (by simp), w64 (by omega) (by omega)]
      norm_cast
theorem ref_Valid {l : List Int} (hu : U l) (k : Int) : Ev (fun q => bucketlineref01_Valid.f q k l) (validB k l) := by
  unfold bucketlineref01_Valid.f
  refine Ev.bind (ref_Size k) ?_
  by_cases h0 : sizeZ k = 0
  · simp only [h0, if_true]
    refine Ev.step (f := fun _ => some (validB k l)) (fun q => ?_) (Ev.now _)
    simp only [bucketlineref01_Valid.j0, if_true]
    rw [validB_len (by omega)]
  · simp only [h0, if_false]
    refine Ev.bind (ref_Size k) ?_
    by_cases h1 : (l.length : Int) = sizeZ k
    · have hk : 1 ≤ k ∧ k ≤ 128 := by
        unfold sizeZ at h0; split at h0
        · assumption
        · omega
      have hs : sizeZ k = (k + 63) / 64 := by unfold sizeZ; rw [if_pos hk]
      have e : ((l.length : Int) != sizeZ k) = false := by rw [bne_eq_false_iff_eq]; exact h1
      simp only [e]
      have hl : k.toNat + (64 * l.length - k.toNat) = 64 * l.length := by omega
      have h := ref_Valid_loop hu (by omega) _ k.toNat hl
      rw [Int.toNat_of_nonneg (by omega)] at h
      have e2 : decide (val l < 2 ^ k.toNat) = validB k l := by
        unfold validB
        rw [decide_eq_decide]
        exact ⟨fun h => ⟨hk.1, hk.2, by omega, h⟩, fun h => h.2.2.2⟩
      rw [e2] at h
      refine Ev.step (fun q => ?_) h
      simp only [bucketlineref01_Valid.j0, Bool.false_eq_true, if_false]
    · have e : ((l.length : Int) != sizeZ k) = true := by rw [bne_iff_ne]; exact h1
      simp only [e]
      refine Ev.step (f := fun _ => some (validB k l)) (fun q => ?_) (Ev.now _)
      simp only [bucketlineref01_Valid.j0, if_true]
      rw [validB_len (by omega)]
/-! xor -/
theorem ref_Xor_loop {a b : List Int} (ha : U a) (hb : U b) (hl : b.length ≤ a.length) (ha2 : a.length < 17592186044416) (d : Nat) : ∀ (i : Nat), i + d = b.length → Ev (fun q => bucketlineref01_Xor.l0 q b (xorL (b.take i) a) (i : Int)) (xorL b a) := by
  induction d with
  | zero =>
    intro i hi
    refine Ev.step (f := fun _ => some (xorL b a)) (fun q => ?_) (Ev.now _)
    simp only [bucketlineref01_Xor.l0]
    rw [if_neg (by omega), List.take_of_length_le (by omega)]
  | succ d ih =>
    intro i hi
    refine Ev.step (fun q => ?_) (ih (i + 1) (by omega))
    simp only [bucketlineref01_Xor.l0]
    have hlen : (xorL (b.take i) a).length = a.length := by rw [xorL_length]; simp; omega
    rw [if_pos (by omega), if_pos (by omega), if_pos (by rw [hlen]; omega), rd_nat, rd_nat, xor64 ((U_xorL (hb.take i) ha).getD i) (hb.getD i), Int.toNat_natCast, xor_round ha hb hl (by omega), w64 (by omega) (by omega)]
    norm_cast
theorem ref_Xor_loop' {a b : List Int} (ha : U a) (hb : U b) (hl : b.length ≤ a.length) (ha2 : a.length < 17592186044416) (d : Nat) : ∀ (i : Nat), i + d = b.length → Ev (fun q => bucketlineref01_Xor.l100 q b (xorL (b.take i) a) (i : Int)) (xorL b a) := by
  induction d with
  | zero =>
    intro i hi
    refine Ev.step (f := fun _ => some (xorL b a)) (fun q => ?_) (Ev.now _)
    simp only [bucketlineref01_Xor.l100]
    rw [if_neg (by omega), List.take_of_length_le (by omega)]
  | succ d ih =>
    intro i hi
    refine Ev.step (fun q => ?_) (ih (i + 1) (by omega))
    simp only [bucketlineref01_Xor.l100]
    have hlen : (xorL (b.take i) a).length = a.length := by rw [xorL_length]; simp; omega
    rw [if_pos (by omega), if_pos (by omega), if_pos (by rw [hlen]; omega), rd_nat, rd_nat, xor64 ((U_xorL (hb.take i) ha).getD i) (hb.getD i), Int.toNat_natCast, xor_round ha hb hl (by omega), w64 (by omega) (by omega)]
    norm_cast
theorem ref_Xor {a b : List Int} (ha : U a) (hb : U b) (h1 : a.length < 17592186044416) (h2 : b.length < 17592186044416) : Ev (fun q => bucketlineref01_Xor.f q a b) (xorL a b) := by
  unfold bucketlineref01_Xor.f
  by_cases h : (a.length : Int) < (b.length : Int)
  · simp only [h, if_true, List.length_nil, Nat.zero_add, h2, List.nil_append]
    have := ref_Xor_loop hb ha (by omega) h2 a.length 0 (by omega)
    simpa [xorL] using this
  · simp only [h, if_false, List.length_nil, Nat.zero_add, h1, if_true, List.nil_append]
    have := ref_Xor_loop' ha hb (by omega) h1 b.length 0 (by omega)
    rw [xorL_comm b a] at this
    simpa [xorL] using this
/-! how many bits -/
theorem ref_Count_word {l : List Int} {i : Int} {r : Int} (x : Nat) : ∀ (n : Nat), n + cnt x ≤ 4611686018427387904 → x < 18446744073709551616 → Ev (fun q => bucketlineref01_Count.l0 q l ((n + cnt x : Nat) : Int) (wrap64 (i + 1))) r → Ev (fun q => bucketlineref01_Count.l1 q l (n : Int) i (x : Int)) r := by
  induction x using Nat.strongRecOn with
  | _ x ih =>
    intro n hn hx h
    by_cases h0 : x = 0
    · subst h0
      refine Ev.step (fun q => ?_) h
      simp only [bucketlineref01_Count.l1]
      rw [if_neg (by omega), cnt_zero, Nat.add_zero]
    · have hc := cnt_step x
      have := ih (x / 2) (by omega) (n + x % 2) (by omega) (by omega) (by rw [show n + x % 2 + cnt (x / 2) = n + cnt x by omega]; exact h)
      refine Ev.step (fun q => ?_) this
      simp only [bucketlineref01_Count.l1]
      rw [if_pos (by omega), and1 hx, Nat.and_one_is_mod, w64 (x := ((x % 2 : Nat) : Int)) (by omega) (by omega), w64 (by omega) (by omega)]
      norm_cast
theorem ref_Count_loop {l : List Int} (hu : U l) (hl : l.length < 17592186044416) (d : Nat) : ∀ (i n : Nat), i + d = l.length → n ≤ 64 * i → Ev (fun q => bucketlineref01_Count.l0 q l (n : Int) (i : Int)) ((n + cnt (val (l.drop i)) : Nat) : Int) := by
  induction d with
  | zero =>
    intro i n hi hn
    refine Ev.step (f := fun _ => some ((n + cnt (val (l.drop i)) : Nat) : Int)) (fun q => ?_) (Ev.now _)
    simp only [bucketlineref01_Count.l0]
    rw [if_neg (by omega), List.drop_of_length_le (by omega)]
    simp [val, cnt_zero]
  | succ d ih =>
    intro i n hi hn
    have hx := hu.getD i
    obtain ⟨x, hxe⟩ := Int.eq_ofNat_of_zero_le hx.1
    rw [hxe] at hx
    have hc : cnt x ≤ 64 := cnt_le 64 x (by rw [pow64]; omega)
    have e : cnt (val (l.drop i)) = cnt x + cnt (val (l.drop (i + 1))) := by
      rw [val_drop (by omega), hxe, Int.toNat_natCast, cnt_cons _ _ (by omega)]
    have h := ih (i + 1) (n + cnt x) (by omega) (by omega)
    rw [show n + cnt (val (l.drop i)) = n + cnt x + cnt (val (l.drop (i + 1))) by omega]
    refine Ev.step (fun q => ?_) (ref_Count_word (l := l) (i := (i : Int)) x n (by omega) (by omega) (by rw [w64 (by omega) (by omega)]; exact_mod_cast h))
    simp only [bucketlineref01_Count.l0]
    rw [if_pos (by omega), if_pos (by omega), rd_nat, hxe]
theorem ref_Count {l : List Int} (hu : U l) (hl : l.length < 17592186044416) : Ev (fun q => bucketlineref01_Count.f q l) (cnt (val l) : Int) := by
  have := ref_Count_loop hu hl l.length 0 0 (by omega) (by omega)
  simpa [bucketlineref01_Count.f] using this
theorem ref_Same {a b : List Int} (ha : U a) (hb : U b) (h1 : a.length < 17592186044416) (h2 : b.length < 17592186044416) : Ev (fun q => bucketlineref01_Same.f q a b) (decide (val a = val b)) := by
  unfold bucketlineref01_Same.f
  refine Ev.bind (ref_Xor ha hb h1 h2) ?_
  have hl : (xorL a b).length < 17592186044416 := by rw [xorL_length]; omega
  refine Ev.bind (ref_Count (U_xorL ha hb) hl) ?_
  have e : (((cnt (val (xorL a b)) : Nat) : Int) == 0) = decide (val a = val b) := by
    rw [Bool.eq_iff_iff, beq_iff_eq, decide_eq_true_eq, val_xorL ha hb, ← xor_eq_zero]
    constructor
    · intro h; exact cnt_eq_zero (by omega)
    · intro h; rw [h, cnt_zero]; rfl
  rw [e]
  exact Ev.now _
end Go.Proofs.YtbcphdbcdjdfpaaDoor.S
