/- The plain statement of NumsBack. -/
import Derived.Test.YtkailkcfhkooeaaSna
import Derived.Test.YtkailkcfhkooeaaP7
namespace Go.Proofs.Ytkailkcfhkooeaa.Pure
open Go.RowKit Go.Proofs.Ytkailkcfhkooeaa.P Go.Proofs.YtkailkcfhkooeaaW.PrintWords Go.Proofs.YtkailkcfhkooeaaW.PrintLast Go.Proofs.YtkailkcfhkooeaaW.PrintMore Go.Proofs.Ytkailkcfhkooeaa.M
open Go.Proofs.Ytkailkcfhkooeaa.S
set_option linter.unusedVariables false
theorem get_back (n : Int) (s : ByteArray) (w : Int) (h : w = 1 ∨ w = 2 ∨ w = 4) : getR (strOfNums (putL n w) ++ s) w = (n % 256 ^ w.toNat, 0) := by
  have hb : ∀ i : Nat, i < (putL n w).length → bt (strOfNums (putL n w) ++ s) (i : Int) = (putL n w).getD i 0 := fun i hi => by
    rw [bt_rd, bytesOf_append, bytesOf_strOfNums (putL_B n w), List.getD_eq_getElem?_getD, List.getElem?_append_left hi, ← List.getD_eq_getElem?_getD]
  have hs : (strOfNums (putL n w) ++ s).size = (putL n w).length + s.size := by rw [bytesOf_size, bytesOf_append, List.length_append, bytesOf_strOfNums (putL_B n w), ← bytesOf_size]
  rw [getR_yes _ h, hs]
  rcases h with rfl | rfl | rfl
  · have h0 := hb 0 (by simp [putL])
    rw [if_neg (by simp [putL]; omega)]
    simp only [putL, if_true] at h0 ⊢
    simp only [Int.toNat_one, bePart, Nat.zero_add, h0, List.getD_cons_zero]
    congr 1
    simp; omega
  · have h0 := hb 0 (by simp [putL])
    have h1 := hb 1 (by simp [putL])
    rw [if_neg (by simp [putL]; omega)]
    rw [show putL n 2 = [n / 256 % 256, n % 256] from rfl] at h0 h1 ⊢
    simp only [show (2 : Int).toNat = 2 from rfl, bePart, Nat.zero_add, h0, h1, List.getD_cons_zero, List.getD_cons_succ]
    congr 1
    omega
  · have h0 := hb 0 (by simp [putL])
    have h1 := hb 1 (by simp [putL])
    have h2 := hb 2 (by simp [putL])
    have h3 := hb 3 (by simp [putL])
    rw [if_neg (by simp [putL]; omega)]
    rw [show putL n 4 = [n / 16777216 % 256, n / 65536 % 256, n / 256 % 256, n % 256] from rfl] at h0 h1 h2 h3 ⊢
    simp only [show (4 : Int).toNat = 4 from rfl, bePart, Nat.zero_add, h0, h1, h2, h3, List.getD_cons_zero, List.getD_cons_succ]
    congr 1
    omega
theorem wi64 {x : Int} (h0 : -9223372036854775808 ≤ x) (h1 : x ≤ 9223372036854775807) : IntKind.i64.wrap x = x := by
  simp only [IntKind.wrap, IntKind.signed, IntKind.bits]
  simp
  omega
theorem and_mask (n : Int) (j : Nat) (hj : j ≤ 62) (h0 : -9223372036854775808 ≤ n) (h1 : n ≤ 9223372036854775807) : Go.bits .and .i64 n ((2 ^ j - 1 : Nat) : Int) = n % (2 ^ j : Nat) := by
  have hp : 2 ^ j ≤ 2 ^ 62 := Nat.pow_le_pow_right (by decide) hj
  have hp0 : 0 < 2 ^ j := Nat.two_pow_pos j
  simp only [Nat.reducePow] at hp
  have hx : (BitVec.ofInt 64 n).toNat &&& (2 ^ j - 1) = (BitVec.ofInt 64 n).toNat % 2 ^ j := Nat.and_two_pow_sub_one_eq_mod _ _
  have h2 : (BitVec.ofInt 64 ((2 ^ j - 1 : Nat) : Int)).toNat = 2 ^ j - 1 := by
    rw [BitVec.ofInt_natCast, BitVec.toNat_ofNat]; exact Nat.mod_eq_of_lt (by omega)
  have e : ((BitVec.ofInt 64 n).toNat : Int) = n % 18446744073709551616 := by
    rw [BitVec.toNat_ofInt]
    simp only [Nat.reducePow]
    omega
  have hd : n % 18446744073709551616 % (2 ^ j : Nat) = n % (2 ^ j : Nat) := by
    apply Int.emod_emod_of_dvd
    have : (2 ^ j : Nat) ∣ 2 ^ 64 := Nat.pow_dvd_pow 2 (by omega)
    have h3 : ((2 ^ j : Nat) : Int) ∣ ((18446744073709551616 : Nat) : Int) := Int.natCast_dvd_natCast.2 (by rw [← pow64]; exact this)
    exact h3
  have hlt : (BitVec.ofInt 64 n).toNat % 2 ^ j < 2 ^ j := Nat.mod_lt _ hp0
  show IntKind.i64.wrap ((BitVec.ofInt 64 n &&& BitVec.ofInt 64 ((2 ^ j - 1 : Nat) : Int)).toNat : Int) = _
  rw [BitVec.toNat_and, h2, hx]
  have e2 : (((BitVec.ofInt 64 n).toNat % 2 ^ j : Nat) : Int) = n % (2 ^ j : Nat) := by rw [Int.natCast_emod, e, hd]
  rw [e2]
  have h5 := Int.emod_nonneg n (show ((2 ^ j : Nat) : Int) ≠ 0 by omega)
  have h6 := Int.emod_lt_of_pos n (show (0 : Int) < ((2 ^ j : Nat) : Int) by omega)
  exact wi64 (by omega) (by omega)
theorem NumsBack : bucketlinelaw06_NumsBack.Pure := by
  intro n s hn hs
  have hn := i64_of_wf hn
  refine Ev.rounds (g := fun k => bucketlinelaw06_NumsBack.f k n s) ?_
  unfold bucketlinelaw06_NumsBack.f
  have hl : ∀ w, (putL n w).length ≤ 4 := fun w => by
    unfold putL
    split
    · simp
    · split
      · simp
      · split <;> simp
  have hz : ∀ w, (strOfNums (putL n w)).size + s.size ≤ 9223372036854775807 := fun w => by have := hl w; rw [strOfNums_size]; omega
  refine Ev.bind (Put n 1) ?_
  simp only [hz, if_true]
  refine Ev.bind (Get _ (by decide)) (Ev.bind (Put n 2) ?_)
  simp only [hz, if_true]
  refine Ev.bind (Get _ (by decide)) (Ev.bind (Put n 4) ?_)
  simp only [hz, if_true]
  refine Ev.bind (Get _ (by decide)) ?_
  have a1 := and_mask n 8 (by omega) hn.1 hn.2
  have a2 := and_mask n 16 (by omega) hn.1 hn.2
  have a3 := and_mask n 32 (by omega) hn.1 hn.2
  simp only [Nat.reducePow, Nat.reduceSub] at a1 a2 a3
  have b1 := get_back n s 1 (by omega)
  have b2 := get_back n s 2 (by omega)
  have b4 := get_back n s 4 (by omega)
  simp only [b1, b2, b4, if_true]
  have c1 : n % 256 ^ (1 : Int).toNat = Go.bits .and .i64 n 255 := by rw [show ((255 : Int)) = ((255 : Nat) : Int) from rfl, a1]; rfl
  have c2 : n % 256 ^ (2 : Int).toNat = Go.bits .and .i64 n 65535 := by rw [show ((65535 : Int)) = ((65535 : Nat) : Int) from rfl, a2]; rfl
  have c4 : n % 256 ^ (4 : Int).toNat = Go.bits .and .i64 n 4294967295 := by rw [show ((4294967295 : Int)) = ((4294967295 : Nat) : Int) from rfl, a3]; rfl
  rw [c1, c2, c4]
  simp only [if_true]
  exact awake06'
end Go.Proofs.Ytkailkcfhkooeaa.Pure
