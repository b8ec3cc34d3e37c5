/- Go's operations on numbers of 64 bits, as the plain facts tell them. -/
import Derived.Laws.Bits64b
import Derived.Lib.TrailingZeros
import Derived.Test.YtlpcphndgjibpaaDoorZGWMore
import Derived.Test.YtlpcphndgjibpaaDoorZGM1
namespace Go.Proofs.YtlpcphndgjibpaaDoor.M
open Go.RowKit Go.Proofs.YtlpcphndgjibpaaDoorW.PrintWords Go.Proofs.YtlpcphndgjibpaaDoorW.PrintMore
set_option linter.unusedVariables false
theorem U_of_wf {l : List Int} (h : ∀ x ∈ l, (Lit.int .u64 x).wf = true) : U l := fun x hx => by
  have := h x hx
  have h1 : IntKind.u64.min = 0 := rfl
  have h2 : IntKind.u64.max = 18446744073709551615 := rfl
  simp only [Lit.wf, Bool.and_eq_true, decide_eq_true_eq] at this
  omega
theorem w64 {x : Int} (h0 : -9223372036854775808 ≤ x) (h1 : x ≤ 9223372036854775807) : wrap64 x = x := by unfold wrap64; omega
theorem wu64 {x : Int} (h0 : 0 ≤ x) (h1 : x < 18446744073709551616) : IntKind.u64.wrap x = x := by rw [IntKind.wrap_u64]; omega
theorem rd_nat (l : List Int) (i : Nat) : rd l (i : Int) = l.getD i 0 := by unfold rd; rw [Int.toNat_natCast]
theorem and64 {a b : Int} (ha : 0 ≤ a ∧ a < 18446744073709551616) (hb : 0 ≤ b ∧ b < 18446744073709551616) : Go.bits .and .u64 a b = ((a.toNat &&& b.toNat : Nat) : Int) := by
  obtain ⟨x, rfl⟩ := Int.eq_ofNat_of_zero_le ha.1
  obtain ⟨y, rfl⟩ := Int.eq_ofNat_of_zero_le hb.1
  simp only [Int.toNat_natCast]
  exact bits_and_u64_nat x y (by omega) (by omega)
theorem xor64 {a b : Int} (ha : 0 ≤ a ∧ a < 18446744073709551616) (hb : 0 ≤ b ∧ b < 18446744073709551616) : Go.bits .xor .u64 a b = ((a.toNat ^^^ b.toNat : Nat) : Int) := by
  obtain ⟨x, rfl⟩ := Int.eq_ofNat_of_zero_le ha.1
  obtain ⟨y, rfl⟩ := Int.eq_ofNat_of_zero_le hb.1
  simp only [Int.toNat_natCast]
  exact bits_xor_u64_nat x y (by omega) (by omega)
/-! the number of set bits -/
theorem s1_lt (n : Nat) : ∀ x, x < 256 ^ n → s1 (m5 n) x < 256 ^ n := by
  induction n with
  | zero => intro x h; have : x = 0 := by simpa using h
            subst this; simp [s1, m5]
  | succ n ih =>
    intro x h
    have e : x = x % 256 + 256 * (x / 256) := by omega
    have hb : x % 256 < 256 := by omega
    have h1 := (byte1 _ hb).2
    have h2 := ih (x / 256) (by rw [Nat.pow_succ] at h; omega)
    rw [e, m5, s1_step _ _ _ hb, Nat.pow_succ]
    omega
theorem Q_top (x : Nat) : Q 8 x / 16 + Q 8 x < 18446744073709551616 := by
  have h := Q_lt 7 (x / 256)
  have q8 : ∀ (n z : Nat), Q (n + 1) z < 128 * 256 ^ n := by
    intro n
    induction n with
    | zero => intro z; have := (byte3' (z % 256) (by omega)).1; simp [Q]; omega
    | succ n ih =>
      intro z
      have h1 := ih (z / 256)
      have h2 := (byte3' (z % 256) (by omega)).1
      rw [Q, Nat.pow_succ]
      omega
  have := q8 7 x
  simp at this
  omega
theorem swar (x : Nat) (hx : x < 18446744073709551616) : s1 (m5 8) x < 18446744073709551616 ∧ s2 (m3 8) (s1 (m5 8) x) = Q 8 x ∧ Q 8 x < 18446744073709551616 := by
  have h : x < 256 ^ 8 := by simpa using hx
  have h1 := s1_lt 8 x h
  have h2 := Q_lt 8 x
  simp at h1 h2
  exact ⟨h1, s12 8 x h, h2⟩
theorem and_i64_127 (n : Nat) (h : n < 9223372036854775808) : Go.bits .and .i64 (n : Int) 127 = ((n % 128 : Nat) : Int) := by
  have hx : n &&& 127 = n % 128 := by rw [show (127 : Nat) = 2 ^ 7 - 1 by decide, Nat.and_two_pow_sub_one_eq_mod]
  have h1 : (BitVec.ofInt 64 (n : Int)).toNat = n := by
    rw [BitVec.ofInt_natCast, BitVec.toNat_ofNat]; exact Nat.mod_eq_of_lt (by omega)
  have h2 : (BitVec.ofInt 64 (127 : Int)).toNat = 127 := by decide
  show IntKind.i64.wrap ((BitVec.ofInt 64 (n : Int) &&& BitVec.ofInt 64 (127 : Int)).toNat : Int) = _
  rw [BitVec.toNat_and, h1, h2, hx]
  simp only [IntKind.wrap, IntKind.signed, IntKind.bits]
  simp
  omega
/-! the lowest bit -/
theorem ctz_low (x : Nat) (h0 : x ≠ 0) (h : x < 18446744073709551616) : Lib.ctz 64 x = low x := by
  have key : ∀ (f x : Nat), x ≠ 0 → x < 2 ^ f → Lib.ctzFrom f x = low x := by
    intro f
    induction f with
    | zero => intro x h0 h; simp at h; omega
    | succ f ih =>
      intro x h0 h
      rw [Lib.ctzFrom]
      by_cases hx : x % 2 = 1
      · rw [if_pos hx, low_odd hx]
      · rw [if_neg hx, low_even h0 (by omega), ih (x / 2) (by omega) (by rw [Nat.pow_succ] at h; omega)]
  unfold Lib.ctz
  rw [if_neg h0]
  exact key 64 x h0 (by rw [pow64]; exact h)
end Go.Proofs.YtlpcphndgjibpaaDoor.M
