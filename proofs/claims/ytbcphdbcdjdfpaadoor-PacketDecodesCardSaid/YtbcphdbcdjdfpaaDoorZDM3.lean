/- Bytes: big-endian numbers out of them; strings as rows of bytes. -/
import Derived.Test.YtbcphdbcdjdfpaaDoorZDM2
namespace Go.Proofs.YtbcphdbcdjdfpaaDoor.M
open Go.RowKit Go.Proofs.YtbcphdbcdjdfpaaDoorW.PrintWords Go.Proofs.YtbcphdbcdjdfpaaDoorW.PrintMore
set_option linter.unusedVariables false
/-- The number of m bytes from i on, the first the highest. -/
def bePart (s : ByteArray) (i : Nat) : Nat → Nat
  | 0 => 0
  | m + 1 => bePart s i m * 256 + (bt s ((i + m : Nat) : Int)).toNat
theorem bePart_lt (s : ByteArray) (i : Nat) : ∀ m, bePart s i m < 256 ^ m
  | 0 => by simp [bePart]
  | m + 1 => by
    have := bePart_lt s i m
    have h := bt_range s ((i + m : Nat) : Int)
    rw [bePart, Nat.pow_succ]
    omega
theorem or_i64_nat (a b : Nat) (ha : a < 9223372036854775808) (hb : b < 9223372036854775808) : Go.bits .or .i64 (a : Int) (b : Int) = ((a ||| b : Nat) : Int) := by
  have hx : a ||| b < 2 ^ 63 := Nat.or_lt_two_pow (by omega) (by omega)
  have h1 : (BitVec.ofInt 64 (a : Int)).toNat = a := by
    rw [BitVec.ofInt_natCast, BitVec.toNat_ofNat]; exact Nat.mod_eq_of_lt (by omega)
  have h2 : (BitVec.ofInt 64 (b : Int)).toNat = b := by
    rw [BitVec.ofInt_natCast, BitVec.toNat_ofNat]; exact Nat.mod_eq_of_lt (by omega)
  show IntKind.i64.wrap ((BitVec.ofInt 64 (a : Int) ||| BitVec.ofInt 64 (b : Int)).toNat : Int) = _
  rw [BitVec.toNat_or, h1, h2]
  simp only [IntKind.wrap, IntKind.signed, IntKind.bits]
  simp
  omega
theorem shift_or (x b : Nat) (hb : b < 256) : x * 256 ||| b = x * 256 + b := by
  have := Nat.two_pow_add_eq_or_of_lt (i := 8) (b := b) (by simpa using hb) x
  rw [show (2 : Nat) ^ 8 = 256 by decide] at this
  rw [Nat.mul_comm x 256, this]
theorem bt_nat (s : ByteArray) (i : Int) : ∃ b : Nat, bt s i = (b : Int) ∧ b < 256 := by
  have := bt_range s i
  exact ⟨(bt s i).toNat, by omega, by omega⟩
theorem or_byte (x : Nat) (s : ByteArray) (i : Int) (hx : x < 4294967296) : Go.bits .or .i64 (wrap64 ((x : Int) * 256)) (wrap64 (bt s i)) = ((x * 256 + (bt s i).toNat : Nat) : Int) := by
  obtain ⟨b, e, hb⟩ := bt_nat s i
  rw [e, w64 (by omega) (by omega), w64 (by omega) (by omega), show (x : Int) * 256 = ((x * 256 : Nat) : Int) by omega, or_i64_nat _ _ (by omega) (by omega), shift_or _ _ hb, Int.toNat_natCast]
theorem or_byte64 (x : Nat) (s : ByteArray) (i : Int) (hx : x < 72057594037927936) : Go.bits .or .u64 (IntKind.u64.wrap ((x : Int) * 256)) (IntKind.u64.wrap (bt s i)) = ((x * 256 + (bt s i).toNat : Nat) : Int) := by
  obtain ⟨b, e, hb⟩ := bt_nat s i
  rw [e, wu64 (by omega) (by omega), wu64 (by omega) (by omega), or64 (by omega) (by omega)]
  have : ((x : Int) * 256).toNat = x * 256 := by omega
  rw [this, Int.toNat_natCast, shift_or _ _ hb]
/-- The words of so many times eight bytes. -/
def beWords (s : ByteArray) (n : Nat) : List Int := (List.range n).map fun c => ((bePart s (8 * c) 8 : Nat) : Int)
theorem beWords_U (s : ByteArray) (n : Nat) : U (beWords s n) := fun x hx => by
  obtain ⟨c, _, rfl⟩ := List.mem_map.1 hx
  have := bePart_lt s (8 * c) 8
  simp at this
  omega
theorem beWords_length (s : ByteArray) (n : Nat) : (beWords s n).length = n := by simp [beWords]
/-- What stands of the words behind t bytes. -/
def beWordsAt (s : ByteArray) (n t : Nat) : List Int := (List.range n).map fun c => ((bePart s (8 * c) (min 8 (t - 8 * c)) : Nat) : Int)
theorem beWordsAt_zero (s : ByteArray) (n : Nat) : beWordsAt s n 0 = List.replicate n 0 := by
  unfold beWordsAt
  apply List.ext_getElem
  · simp
  · intro i h1 h2
    simp [bePart]
theorem beWordsAt_full (s : ByteArray) (n : Nat) : beWordsAt s n (8 * n) = beWords s n := by
  unfold beWordsAt beWords
  apply List.map_congr_left
  intro c hc
  have := List.mem_range.1 hc
  rw [show min 8 (8 * n - 8 * c) = 8 by omega]
theorem beWordsAt_length (s : ByteArray) (n t : Nat) : (beWordsAt s n t).length = n := by simp [beWordsAt]
theorem beWordsAt_getD (s : ByteArray) (n t c : Nat) (h : c < n) : (beWordsAt s n t).getD c 0 = ((bePart s (8 * c) (min 8 (t - 8 * c)) : Nat) : Int) := by
  rw [List.getD_eq_getElem?_getD, beWordsAt, List.getElem?_map, List.getElem?_range h]; rfl
theorem beWordsAt_step (s : ByteArray) (n t : Nat) (h : t < 8 * n) : (beWordsAt s n t).set (t / 8) ((bePart s (8 * (t / 8)) (t % 8) * 256 + (bt s (t : Int)).toNat : Nat) : Int) = beWordsAt s n (t + 1) := by
  refine ext_getD (by simp [beWordsAt_length]) fun c => ?_
  rw [getD_set, beWordsAt_length]
  by_cases hc : c < n
  · rw [beWordsAt_getD _ _ _ _ hc, beWordsAt_getD _ _ _ _ hc]
    by_cases h1 : t / 8 = c
    · rw [if_pos ⟨h1, by omega⟩, show min 8 (t + 1 - 8 * c) = t % 8 + 1 by omega, bePart, h1, show 8 * c + t % 8 = t by omega]
    · rw [if_neg (by omega)]
      by_cases h2 : c < t / 8
      · rw [show min 8 (t - 8 * c) = 8 by omega, show min 8 (t + 1 - 8 * c) = 8 by omega]
      · rw [show min 8 (t - 8 * c) = 0 by omega, show min 8 (t + 1 - 8 * c) = 0 by omega]
  · rw [if_neg (by omega)]
    simp only [List.getD_eq_getElem?_getD]
    rw [List.getElem?_eq_none (by rw [beWordsAt_length]; omega), List.getElem?_eq_none (by rw [beWordsAt_length]; omega)]
/-! strings -/
def B (l : List Int) : Prop := ∀ x ∈ l, 0 ≤ x ∧ x < 256
/-- The eight bytes of a word. -/
def bytes8 (x : Int) : List Int := [x / 72057594037927936 % 256, x / 281474976710656 % 256, x / 1099511627776 % 256, x / 4294967296 % 256, x / 16777216 % 256, x / 65536 % 256, x / 256 % 256, x % 256]
def bytesV (l : List Int) : List Int := l.flatMap bytes8
end Go.Proofs.YtbcphdbcdjdfpaaDoor.M
