/- What the printed functions words.Size, words.Valid and the reference's Size, Get, Valid, Xor, Count, Same, Words come to. -/
import Derived.Test.YtbcphdbcdjdfpaaDoorZSM2
import Derived.Test.YtbcphdbcdjdfpaaDoorZSP2
import Derived.Test.YtbcphdbcdjdfpaaDoorZSP0
import Derived.Test.YtbcphdbcdjdfpaaDoorZSP3
import Derived.Test.YtbcphdbcdjdfpaaDoorZSP5
namespace Go.Proofs.YtbcphdbcdjdfpaaDoor.S
open Go.RowKit Go.Proofs.YtbcphdbcdjdfpaaDoor.P Go.Proofs.YtbcphdbcdjdfpaaDoorW.PrintWords Go.Proofs.YtbcphdbcdjdfpaaDoorW.PrintLast Go.Proofs.YtbcphdbcdjdfpaaDoorW.PrintMore Go.Proofs.YtbcphdbcdjdfpaaDoor.M
set_option linter.unusedVariables false
set_option linter.unusedSimpArgs false
/-- How many words blocks have. -/
def sizeZ (k : Int) : Int := if 1 ≤ k ∧ k ≤ 128 then (k + 63) / 64 else 0
theorem sizeZ_nn (k : Int) : 0 ≤ sizeZ k ∧ sizeZ k ≤ 2 := by unfold sizeZ; split <;> omega
theorem words_Size (k : Int) : words_Size.f k = some (sizeZ k) := by
  unfold words_Size.f sizeZ
  by_cases h1 : k < 1
  · rw [if_pos h1, if_neg (by omega)]
  · by_cases h2 : k > 128
    · rw [if_neg h1, if_pos h2, if_neg (by omega)]
    · rw [if_neg h1, if_neg h2, if_pos (by omega), show wrap64 (k + 63) = k + 63 from w64 (by omega) (by omega), Int.tdiv_eq_ediv_of_nonneg (by omega), w64 (by omega) (by omega)]
/-- Is a bit set? -/
def getB (l : List Int) (i : Int) : Bool := decide (0 ≤ i) && (val l).testBit i.toNat
theorem shr_nat (x i : Nat) (hi : i ≤ 64) : shr .u64 (x : Int) (i : Int) = ((x / 2 ^ i : Nat) : Int) := by
  unfold shr
  rw [Int.toNat_natCast, show IntKind.u64.bits = 64 from rfl, Nat.min_eq_left hi]
  norm_cast
/-- Is a row one of so many blocks? -/
def validB (k : Int) (l : List Int) : Bool := decide (1 ≤ k ∧ k ≤ 128 ∧ (l.length : Int) = (k + 63) / 64 ∧ val l < 2 ^ k.toNat)
theorem validB_len {k : Int} {l : List Int} (h : ¬ (sizeZ k > 0 ∧ (l.length : Int) = sizeZ k)) : validB k l = false := by
  unfold validB
  unfold sizeZ at h
  rw [decide_eq_false_iff_not]
  intro ⟨a, b, c, _⟩
  rw [if_pos ⟨a, b⟩] at h
  omega
theorem words_Valid {l : List Int} (hu : U l) (k : Int) : words_Valid.f k l = some (validB k l) := by
  unfold words_Valid.f
  rw [words_Size]
  simp only [Option.bind_some]
  by_cases h0 : sizeZ k > 0
  · rw [if_pos h0]
    by_cases h1 : (l.length : Int) = sizeZ k
    · rw [if_pos h1]
      have hk : 1 ≤ k ∧ k ≤ 128 := by
        unfold sizeZ at h0; split at h0
        · assumption
        · omega
      have hs : sizeZ k = (k + 63) / 64 := by unfold sizeZ; rw [if_pos hk]
      rw [hs] at h0 h1 ⊢
      have e0 : Int.tmod k 64 = k % 64 := Int.tmod_eq_emod_of_nonneg (by omega)
      rw [e0, w64 (by omega) (by omega)]
      have hv := val_lt hu
      by_cases h2 : k % 64 = 0
      · rw [if_pos h2]
        unfold validB
        rw [decide_eq_true]
        refine ⟨hk.1, hk.2, h1, ?_⟩
        have : 64 * l.length = k.toNat := by omega
        rwa [this] at hv
      · rw [if_neg h2, if_pos (by omega), if_pos (by omega), if_pos (by omega)]
        congr 1
        unfold validB
        rw [Bool.eq_iff_iff, beq_iff_eq, decide_eq_true_eq]
        obtain ⟨n, rfl⟩ := Int.eq_ofNat_of_zero_le (show 0 ≤ k by omega)
        by_cases h3 : (n : Int) ≤ 64
        · have hl : l.length = 1 := by omega
          obtain ⟨x, rfl⟩ : ∃ x, l = [x] := by
            match l, hl with
            | [x], _ => exact ⟨x, rfl⟩
          obtain ⟨hx, _⟩ := hu.cons
          rw [show ((n : Int) + 63) / 64 - 1 = ((0 : Nat) : Int) by omega, rd_nat, show (n : Int) % 64 = ((n : Nat) : Int) by omega]
          simp only [List.getD_cons_zero, val, Int.toNat_natCast]
          obtain ⟨x, rfl⟩ := Int.eq_ofNat_of_zero_le hx.1
          rw [shr_nat _ _ (by omega), Int.toNat_natCast]
          have := @Nat.div_eq_zero_iff x (2 ^ n)
          have hp : 0 < 2 ^ n := Nat.two_pow_pos n
          constructor
          · intro h
            have : x / 2 ^ n = 0 := by omega
            rw [Nat.div_eq_zero_iff] at this
            exact ⟨by omega, by omega, by simp; omega, by omega⟩
          · intro ⟨_, _, _, h⟩
            have : x / 2 ^ n = 0 := Nat.div_eq_of_lt (by omega)
            omega
        · have hl : l.length = 2 := by omega
          obtain ⟨x, y, rfl⟩ : ∃ x y, l = [x, y] := by
            match l, hl with
            | [x, y], _ => exact ⟨x, y, rfl⟩
          obtain ⟨hx, hu2⟩ := hu.cons
          obtain ⟨hy, _⟩ := hu2.cons
          obtain ⟨m, rfl⟩ : ∃ m, n = 64 + m := ⟨n - 64, by omega⟩
          rw [show (((64 + m : Nat) : Int) + 63) / 64 - 1 = ((1 : Nat) : Int) by omega, rd_nat, show ((64 + m : Nat) : Int) % 64 = ((m : Nat) : Int) by omega]
          simp only [List.getD_cons_succ, List.getD_cons_zero, val, Int.toNat_natCast]
          obtain ⟨x, rfl⟩ := Int.eq_ofNat_of_zero_le hx.1
          obtain ⟨y, rfl⟩ := Int.eq_ofNat_of_zero_le hy.1
          rw [shr_nat _ _ (by omega), Int.toNat_natCast, Int.toNat_natCast, Nat.pow_add, pow64]
          have hp : 0 < 2 ^ m := Nat.two_pow_pos m
          constructor
          · intro h
            have : y / 2 ^ m = 0 := by omega
            rw [Nat.div_eq_zero_iff] at this
            exact ⟨by omega, by omega, by simp; omega, by omega⟩
          · intro ⟨_, _, _, h⟩
            have : y / 2 ^ m = 0 := Nat.div_eq_of_lt (by omega)
            omega
    · rw [if_neg h1, validB_len (by omega)]
  · rw [if_neg h0, validB_len (by omega)]
/-! xor -/
/-! how many bits -/
end Go.Proofs.YtbcphdbcdjdfpaaDoor.S
