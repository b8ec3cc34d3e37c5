/- Bytes: big-endian numbers out of them; strings as rows of bytes. -/
import Derived.Test.YtbcphdbcdjdfpaaDoorZBM2
namespace Go.Proofs.YtbcphdbcdjdfpaaDoor.M
open Go.RowKit Go.Proofs.YtbcphdbcdjdfpaaDoorW.PrintWords Go.Proofs.YtbcphdbcdjdfpaaDoorW.PrintMore
set_option linter.unusedVariables false
/-- The number of m bytes from i on, the first the highest. -/
def bePart (s : ByteArray) (i : Nat) : Nat → Nat
  | 0 => 0
  | m + 1 => bePart s i m * 256 + (bt s ((i + m : Nat) : Int)).toNat
theorem bePart_lt (s : ByteArray) (i : Nat) : ∀ m, bePart s i m < 256 ^ m
  | 0 => by simp [bePart]
  | m + 1 => by
    have := bePart_lt s i m
    have h := bt_range s ((i + m : Nat) : Int)
    rw [bePart, Nat.pow_succ]
    omega
theorem or_i64_nat (a b : Nat) (ha : a < 9223372036854775808) (hb : b < 9223372036854775808) : Go.bits .or .i64 (a : Int) (b : Int) = ((a ||| b : Nat) : Int) := by
  have hx : a ||| b < 2 ^ 63 := Nat.or_lt_two_pow (by omega) (by omega)
  have h1 : (BitVec.ofInt 64 (a : Int)).toNat = a := by
    rw [BitVec.ofInt_natCast, BitVec.toNat_ofNat]; exact Nat.mod_eq_of_lt (by omega)
  have h2 : (BitVec.ofInt 64 (b : Int)).toNat = b := by
    rw [BitVec.ofInt_natCast, BitVec.toNat_ofNat]; exact Nat.mod_eq_of_lt (by omega)
  show IntKind.i64.wrap ((BitVec.ofInt 64 (a : Int) ||| BitVec.ofInt 64 (b : Int)).toNat : Int) = _
  rw [BitVec.toNat_or, h1, h2]
  simp only [IntKind.wrap, IntKind.signed, IntKind.bits]
  simp
  omega
theorem shift_or (x b : Nat) (hb : b < 256) : x * 256 ||| b = x * 256 + b := by
  have := Nat.two_pow_add_eq_or_of_lt (i := 8) (b := b) (by simpa using hb) x
  rw [show (2 : Nat) ^ 8 = 256 by decide] at this
  rw [Nat.mul_comm x 256, this]
theorem bt_nat (s : ByteArray) (i : Int) : ∃ b : Nat, bt s i = (b : Int) ∧ b < 256 := by
  have := bt_range s i
  exact ⟨(bt s i).toNat, by omega, by omega⟩
theorem or_byte (x : Nat) (s : ByteArray) (i : Int) (hx : x < 4294967296) : Go.bits .or .i64 (wrap64 ((x : Int) * 256)) (wrap64 (bt s i)) = ((x * 256 + (bt s i).toNat : Nat) : Int) := by
  obtain ⟨b, e, hb⟩ := bt_nat s i
  rw [e, w64 (by omega) (by omega), w64 (by omega) (by omega), show (x : Int) * 256 = ((x * 256 : Nat) : Int) by omega, or_i64_nat _ _ (by omega) (by omega), shift_or _ _ hb, Int.toNat_natCast]
theorem or_byte64 (x : Nat) (s : ByteArray) (i : Int) (hx : x < 72057594037927936) : Go.bits .or .u64 (IntKind.u64.wrap ((x : Int) * 256)) (IntKind.u64.wrap (bt s i)) = ((x * 256 + (bt s i).toNat : Nat) : Int) := by
  obtain ⟨b, e, hb⟩ := bt_nat s i
  rw [e, wu64 (by omega) (by omega), wu64 (by omega) (by omega), or64 (by omega) (by omega)]
  have : ((x : Int) * 256).toNat = x * 256 := by omega
  rw [this, Int.toNat_natCast, shift_or _ _ hb]
/-- The words of so many times eight bytes. -/
def beWords (s : ByteArray) (n : Nat) : List Int := (List.range n).map fun c => ((bePart s (8 * c) 8 : Nat) : Int)
theorem beWords_U (s : ByteArray) (n : Nat) : U (beWords s n) := fun x hx => by
  obtain ⟨c, _, rfl⟩ := List.mem_map.1 hx
  have := bePart_lt s (8 * c) 8
  simp at this
  omega
theorem beWords_length (s : ByteArray) (n : Nat) : (beWords s n).length = n := by simp [beWords]
/-- What stands of the words behind t bytes. -/
def beWordsAt (s : ByteArray) (n t : Nat) : List Int := (List.range n).map fun c => ((bePart s (8 * c) (min 8 (t - 8 * c)) : Nat) : Int)
theorem beWordsAt_zero (s : ByteArray) (n : Nat) : beWordsAt s n 0 = List.replicate n 0 := by
  unfold beWordsAt
  apply List.ext_getElem
  · simp
  · intro i h1 h2
    simp [bePart]
theorem beWordsAt_full (s : ByteArray) (n : Nat) : beWordsAt s n (8 * n) = beWords s n := by
  unfold beWordsAt beWords
  apply List.map_congr_left
  intro c hc
  have := List.mem_range.1 hc
  rw [show min 8 (8 * n - 8 * c) = 8 by omega]
theorem beWordsAt_length (s : ByteArray) (n t : Nat) : (beWordsAt s n t).length = n := by simp [beWordsAt]
theorem beWordsAt_getD (s : ByteArray) (n t c : Nat) (h : c < n) : (beWordsAt s n t).getD c 0 = ((bePart s (8 * c) (min 8 (t - 8 * c)) : Nat) : Int) := by
  rw [List.getD_eq_getElem?_getD, beWordsAt, List.getElem?_map, List.getElem?_range h]; rfl
theorem beWordsAt_step (s : ByteArray) (n t : Nat) (h : t < 8 * n) : (beWordsAt s n t).set (t / 8) ((bePart s (8 * (t / 8)) (t % 8) * 256 + (bt s (t : Int)).toNat : Nat) : Int) = beWordsAt s n (t + 1) := by
  refine ext_getD (by simp [beWordsAt_length]) fun c => ?_
  rw [getD_set, beWordsAt_length]
  by_cases hc : c < n
  · rw [beWordsAt_getD _ _ _ _ hc, beWordsAt_getD _ _ _ _ hc]
    by_cases h1 : t / 8 = c
    · rw [if_pos ⟨h1, by omega⟩, show min 8 (t + 1 - 8 * c) = t % 8 + 1 by omega, bePart, h1, show 8 * c + t % 8 = t by omega]
    · rw [if_neg (by omega)]
      by_cases h2 : c < t / 8
      · rw [show min 8 (t - 8 * c) = 8 by omega, show min 8 (t + 1 - 8 * c) = 8 by omega]
      · rw [show min 8 (t - 8 * c) = 0 by omega, show min 8 (t + 1 - 8 * c) = 0 by omega]
  · rw [if_neg (by omega)]
    simp only [List.getD_eq_getElem?_getD]
    rw [List.getElem?_eq_none (by rw [beWordsAt_length]; omega), List.getElem?_eq_none (by rw [beWordsAt_length]; omega)]
/-! strings -/
def B (l : List Int) : Prop := ∀ x ∈ l, 0 ≤ x ∧ x < 256
theorem bytesOf_strOfNums {l : List Int} (h : B l) : bytesOf (strOfNums l) = l := by
  unfold bytesOf
  rw [strOfNums_data, List.map_map]
  have : ∀ x ∈ l, ((fun b : UInt8 => (b.toNat : Int)) ∘ fun n : Int => UInt8.ofNat n.toNat) x = x := fun x hx => by
    have := h x hx
    simp only [Function.comp]
    rw [UInt8.toNat_ofNat']
    omega
  calc l.map _ = l.map id := List.map_congr_left this
    _ = l := List.map_id l
theorem bytesOf_append (a b : ByteArray) : bytesOf (a ++ b) = bytesOf a ++ bytesOf b := by
  unfold bytesOf
  rw [ByteArray.data_append, Array.toList_append, List.map_append]
theorem bt_rd (s : ByteArray) (i : Nat) : bt s (i : Int) = (bytesOf s).getD i 0 := by
  rw [← rd_bytesOf]; unfold rd; rw [Int.toNat_natCast]
theorem bytesOf_B (s : ByteArray) : B (bytesOf s) := fun x hx => by
  obtain ⟨b, _, rfl⟩ := List.mem_map.1 hx
  have := b.toNat_lt
  show 0 ≤ (b.toNat : Int) ∧ (b.toNat : Int) < 256
  omega
theorem bytesOf_inj {a b : ByteArray} (h : bytesOf a = bytesOf b) : a = b := by
  have key : ∀ (x y : List UInt8), (x.map fun b => (b.toNat : Int)) = (y.map fun b => (b.toNat : Int)) → x = y := by
    intro x
    induction x with
    | nil => intro y h; cases y <;> simp_all
    | cons u x ih =>
      intro y h
      cases y with
      | nil => simp at h
      | cons v y =>
        simp only [List.map_cons, List.cons.injEq] at h
        rw [ih y h.2, UInt8.toNat_inj.1 (show u.toNat = v.toNat by omega)]
  cases a with | mk a => cases b with | mk b => exact congrArg ByteArray.mk (Array.toList_inj.1 (key _ _ h))
theorem bytesOf_size (s : ByteArray) : s.size = (bytesOf s).length := (bytesOf_length s).symm
/-- The eight bytes of a word. -/
def bytes8 (x : Int) : List Int := [x / 72057594037927936 % 256, x / 281474976710656 % 256, x / 1099511627776 % 256, x / 4294967296 % 256, x / 16777216 % 256, x / 65536 % 256, x / 256 % 256, x % 256]
def bytesV (l : List Int) : List Int := l.flatMap bytes8
theorem bytesV_cons (x : Int) (l : List Int) : bytesV (x :: l) = bytes8 x ++ bytesV l := by simp [bytesV]
theorem bytesV_append (a b : List Int) : bytesV (a ++ b) = bytesV a ++ bytesV b := by simp [bytesV]
theorem bytesV_length : ∀ l : List Int, (bytesV l).length = 8 * l.length
  | [] => rfl
  | x :: l => by rw [bytesV_cons, List.length_append, bytesV_length l]; simp [bytes8]; omega
theorem bytesV_B : ∀ l : List Int, B (bytesV l)
  | [], _, h => by cases h
  | x :: l, y, h => by
    rw [bytesV_cons] at h
    rcases List.mem_append.1 h with h | h
    · simp only [bytes8, List.mem_cons, List.not_mem_nil, or_false] at h
      omega
    · exact bytesV_B l y h
theorem bytesV_getD : ∀ (l : List Int) (c j : Nat), c < l.length → j < 8 → (bytesV l).getD (8 * c + j) 0 = (bytes8 (l.getD c 0)).getD j 0
  | [], c, j, h, _ => by simp at h
  | x :: l, 0, j, _, hj => by
    rw [bytesV_cons, List.getD_eq_getElem?_getD, List.getElem?_append_left (by simp [bytes8]; omega), ← List.getD_eq_getElem?_getD]
    simp
  | x :: l, c + 1, j, h, hj => by
    have h8 : (bytes8 x).length = 8 := rfl
    rw [bytesV_cons, List.getD_eq_getElem?_getD, List.getElem?_append_right (by omega), h8, show 8 * (c + 1) + j - 8 = 8 * c + j by omega, ← List.getD_eq_getElem?_getD, bytesV_getD l c j (by simpa using h) hj]
    simp
/-- Words out of bytes that are words' bytes: the words. -/
theorem bePart_bytes {s : ByteArray} {i : Nat} {x : Int} (hx : 0 ≤ x ∧ x < 18446744073709551616) (h : ∀ j, j < 8 → bt s ((i + j : Nat) : Int) = (bytes8 x).getD j 0) : ((bePart s i 8 : Nat) : Int) = x := by
  have h0 := h 0 (by omega); have h1 := h 1 (by omega); have h2 := h 2 (by omega); have h3 := h 3 (by omega)
  have h4 := h 4 (by omega); have h5 := h 5 (by omega); have h6 := h 6 (by omega); have h7 := h 7 (by omega)
  simp only [bytes8, List.getD_cons_zero, List.getD_cons_succ] at h0 h1 h2 h3 h4 h5 h6 h7
  obtain ⟨n, rfl⟩ := Int.eq_ofNat_of_zero_le hx.1
  have hn : n < 18446744073709551616 := by omega
  have g0 : (bt s ((i + 0 : Nat) : Int)).toNat = n / 72057594037927936 % 256 := by rw [h0]; clear h0 h1 h2 h3 h4 h5 h6 h7; omega
  have g1 : (bt s ((i + 1 : Nat) : Int)).toNat = n / 281474976710656 % 256 := by rw [h1]; clear h0 h1 h2 h3 h4 h5 h6 h7; omega
  have g2 : (bt s ((i + 2 : Nat) : Int)).toNat = n / 1099511627776 % 256 := by rw [h2]; clear h0 h1 h2 h3 h4 h5 h6 h7; omega
  have g3 : (bt s ((i + 3 : Nat) : Int)).toNat = n / 4294967296 % 256 := by rw [h3]; clear h0 h1 h2 h3 h4 h5 h6 h7; omega
  have g4 : (bt s ((i + 4 : Nat) : Int)).toNat = n / 16777216 % 256 := by rw [h4]; clear h0 h1 h2 h3 h4 h5 h6 h7; omega
  have g5 : (bt s ((i + 5 : Nat) : Int)).toNat = n / 65536 % 256 := by rw [h5]; clear h0 h1 h2 h3 h4 h5 h6 h7; omega
  have g6 : (bt s ((i + 6 : Nat) : Int)).toNat = n / 256 % 256 := by rw [h6]; clear h0 h1 h2 h3 h4 h5 h6 h7; omega
  have g7 : (bt s ((i + 7 : Nat) : Int)).toNat = n % 256 := by rw [h7]; clear h0 h1 h2 h3 h4 h5 h6 h7; omega
  clear h0 h1 h2 h3 h4 h5 h6 h7 h hx
  have e1 : bePart s i 1 = n / 72057594037927936 := by rw [bePart, bePart, g0]; clear g0 g1 g2 g3 g4 g5 g6 g7; omega
  have e2 : bePart s i 2 = n / 281474976710656 := by rw [bePart, e1, g1]; clear g0 g1 g2 g3 g4 g5 g6 g7 e1; omega
  have e3 : bePart s i 3 = n / 1099511627776 := by rw [bePart, e2, g2]; clear g0 g1 g2 g3 g4 g5 g6 g7 e1 e2; omega
  have e4 : bePart s i 4 = n / 4294967296 := by rw [bePart, e3, g3]; clear g0 g1 g2 g3 g4 g5 g6 g7 e1 e2 e3; omega
  have e5 : bePart s i 5 = n / 16777216 := by rw [bePart, e4, g4]; clear g0 g1 g2 g3 g4 g5 g6 g7 e1 e2 e3 e4; omega
  have e6 : bePart s i 6 = n / 65536 := by rw [bePart, e5, g5]; clear g0 g1 g2 g3 g4 g5 g6 g7 e1 e2 e3 e4 e5; omega
  have e7 : bePart s i 7 = n / 256 := by rw [bePart, e6, g6]; clear g0 g1 g2 g3 g4 g5 g6 g7 e1 e2 e3 e4 e5 e6; omega
  have e8 : bePart s i 8 = n := by rw [bePart, e7, g7]; clear g0 g1 g2 g3 g4 g5 g6 g7 e1 e2 e3 e4 e5 e6 e7; omega
  rw [e8]
theorem beWords_bytes {l : List Int} (hu : U l) (t : ByteArray) : beWords (strOfNums (bytesV l) ++ t) l.length = l := by
  refine ext_getD (beWords_length _ _) fun c => ?_
  by_cases hc : c < l.length
  · rw [List.getD_eq_getElem?_getD, beWords, List.getElem?_map, List.getElem?_range hc]
    refine bePart_bytes (hu.getD c) fun j hj => ?_
    rw [bt_rd, bytesOf_append, bytesOf_strOfNums (bytesV_B l), List.getD_eq_getElem?_getD, List.getElem?_append_left (by rw [bytesV_length]; omega), ← List.getD_eq_getElem?_getD]
    exact bytesV_getD l c j hc hj
  · simp only [List.getD_eq_getElem?_getD]
    rw [List.getElem?_eq_none (by rw [beWords_length]; omega), List.getElem?_eq_none (by omega)]
end Go.Proofs.YtbcphdbcdjdfpaaDoor.M
