/- Plain facts on rows of 64-bit words as one number: xor, the number of set bits (by the parallel sums), the lowest set bit. No program in sight. -/
namespace Go.Proofs.YtbcphdbcdjdfpaaDoor.M
/-- Numbers of 64 bits. -/
def U (l : List Int) : Prop := ∀ x ∈ l, 0 ≤ x ∧ x < 18446744073709551616
/-- A row of bits as one number. -/
def val : List Int → Nat
  | [] => 0
  | x :: l => x.toNat + 18446744073709551616 * val l
def xorL : List Int → List Int → List Int
  | [], b => b
  | a, [] => a
  | x :: a, y :: b => ((x.toNat ^^^ y.toNat : Nat) : Int) :: xorL a b
theorem U.cons {x : Int} {l : List Int} (h : U (x :: l)) : (0 ≤ x ∧ x < 18446744073709551616) ∧ U l := ⟨h x (by simp), fun y hy => h y (by simp [hy])⟩
theorem U.mk {x : Int} {l : List Int} (h0 : 0 ≤ x ∧ x < 18446744073709551616) (h : U l) : U (x :: l) := fun y hy => by
  rcases List.mem_cons.1 hy with rfl | h'
  · exact h0
  · exact h y h'
theorem U.nil : U [] := fun _ h => by cases h
theorem pow64 : (2 : Nat) ^ 64 = 18446744073709551616 := by decide
theorem testBit_add (a b i : Nat) (ha : a < 18446744073709551616) : (a + 18446744073709551616 * b).testBit i = if i < 64 then a.testBit i else b.testBit (i - 64) := by
  rw [Nat.add_comm, ← pow64]
  exact Nat.testBit_two_pow_mul_add b (by rw [pow64]; exact ha) i
theorem xor_add (a b c d : Nat) (ha : a < 18446744073709551616) (hc : c < 18446744073709551616) :
    (a + 18446744073709551616 * b) ^^^ (c + 18446744073709551616 * d) = (a ^^^ c) + 18446744073709551616 * (b ^^^ d) := by
  have hx : a ^^^ c < 18446744073709551616 := by
    have := Nat.xor_lt_two_pow (n := 64) (by rw [pow64]; exact ha) (by rw [pow64]; exact hc)
    rwa [pow64] at this
  refine Nat.eq_of_testBit_eq fun i => ?_
  rw [Nat.testBit_xor, testBit_add a b i ha, testBit_add c d i hc, testBit_add _ _ i hx]
  split <;> simp
theorem xorN_lt {a b : Nat} (ha : a < 18446744073709551616) (hb : b < 18446744073709551616) : a ^^^ b < 18446744073709551616 := by
  have := Nat.xor_lt_two_pow (n := 64) (by rw [pow64]; exact ha) (by rw [pow64]; exact hb)
  rwa [pow64] at this
theorem val_xorL : ∀ {a b : List Int}, U a → U b → val (xorL a b) = val a ^^^ val b
  | [], b, _, _ => by simp [xorL, val]
  | x :: a, [], _, _ => by simp [xorL, val]
  | x :: a, y :: b, ha, hb => by
    obtain ⟨h1, h2⟩ := ha.cons
    obtain ⟨h3, h4⟩ := hb.cons
    simp only [xorL, val, Int.toNat_natCast]
    rw [val_xorL h2 h4, xor_add _ _ _ _ (by omega) (by omega)]
theorem U_xorL : ∀ {a b : List Int}, U a → U b → U (xorL a b)
  | [], b, _, hb => by simpa [xorL] using hb
  | x :: a, [], ha, _ => by simpa [xorL] using ha
  | x :: a, y :: b, ha, hb => by
    obtain ⟨h1, h2⟩ := ha.cons
    obtain ⟨h3, h4⟩ := hb.cons
    have := xorN_lt (a := x.toNat) (b := y.toNat) (by omega) (by omega)
    exact U.mk (by omega) (U_xorL h2 h4)
theorem xorL_length : ∀ (a b : List Int), (xorL a b).length = max a.length b.length
  | [], b => by simp [xorL]
  | x :: a, [] => by simp [xorL]
  | x :: a, y :: b => by simp only [xorL, List.length_cons, xorL_length a b]; omega
theorem xorL_comm : ∀ (a b : List Int), xorL a b = xorL b a
  | [], [] => rfl
  | [], y :: b => by simp [xorL]
  | x :: a, [] => by simp [xorL]
  | x :: a, y :: b => by simp only [xorL, xorL_comm a b, Nat.xor_comm]
theorem val_lt : ∀ {l : List Int}, U l → val l < 2 ^ (64 * l.length)
  | [], _ => by simp [val]
  | x :: l, h => by
    obtain ⟨h1, h2⟩ := h.cons
    have := val_lt h2
    have e : 2 ^ (64 * (x :: l).length) = 18446744073709551616 * 2 ^ (64 * l.length) := by
      rw [List.length_cons, Nat.mul_add, Nat.pow_add, Nat.mul_comm]
    rw [e]
    simp only [val]
    have : 18446744073709551616 * val l + 18446744073709551616 ≤ 18446744073709551616 * 2 ^ (64 * l.length) := by
      rw [← Nat.mul_succ]
      exact Nat.mul_le_mul_left _ this
    omega
/-- Bit i of a row. -/
theorem testBit_val : ∀ {l : List Int} (_ : U l) (i : Nat), (val l).testBit i = ((l.getD (i / 64) 0).toNat).testBit (i % 64)
  | [], _, i => by simp [val]
  | x :: l, h, i => by
    obtain ⟨h1, h2⟩ := h.cons
    simp only [val]
    rw [testBit_add _ _ _ (by omega)]
    by_cases hi : i < 64
    · rw [if_pos hi, Nat.div_eq_of_lt hi, Nat.mod_eq_of_lt hi]; rfl
    · rw [if_neg hi, testBit_val h2]
      have e : i / 64 = (i - 64) / 64 + 1 := by omega
      have e2 : i % 64 = (i - 64) % 64 := by omega
      rw [e, e2]; rfl
theorem U.getD {l : List Int} (h : U l) (i : Nat) : 0 ≤ l.getD i 0 ∧ l.getD i 0 < 18446744073709551616 := by
  rw [List.getD_eq_getElem?_getD]
  cases hx : l[i]? with
  | none => simp
  | some x => exact h x (List.mem_of_getElem? hx)
theorem U.set {l : List Int} (h : U l) (i : Nat) {x : Int} (hx : 0 ≤ x ∧ x < 18446744073709551616) : U (l.set i x) := fun y hy => by
  rcases List.mem_or_eq_of_mem_set hy with h' | rfl
  · exact h y h'
  · exact hx
theorem U.append {a b : List Int} (ha : U a) (hb : U b) : U (a ++ b) := fun y hy => by
  rcases List.mem_append.1 hy with h' | h'
  · exact ha y h'
  · exact hb y h'
theorem U.replicate (n : Nat) : U (List.replicate n 0) := fun y hy => by
  rw [List.eq_of_mem_replicate hy]; decide
/-- How many bits are set. -/
def cnt (n : Nat) : Nat := if h : n = 0 then 0 else n % 2 + cnt (n / 2)
theorem cnt_zero : cnt 0 = 0 := by rw [cnt]; simp
theorem cnt_step (n : Nat) : cnt n = n % 2 + cnt (n / 2) := by
  by_cases h : n = 0
  · subst h; simp [cnt_zero]
  · rw [cnt, dif_neg h]
theorem cnt_split (k : Nat) : ∀ (a b : Nat), a < 2 ^ k → cnt (a + 2 ^ k * b) = cnt a + cnt b := by
  induction k with
  | zero => intro a b h; have : a = 0 := by simpa using h
            subst this; simp [cnt_zero]
  | succ k ih =>
    intro a b h
    have e : (2 : Nat) ^ (k + 1) = 2 * 2 ^ k := by rw [Nat.pow_succ, Nat.mul_comm]
    rw [cnt_step, cnt_step a]
    have h1 : (a + 2 ^ (k + 1) * b) % 2 = a % 2 := by rw [e, Nat.mul_assoc]; omega
    have h2 : (a + 2 ^ (k + 1) * b) / 2 = a / 2 + 2 ^ k * b := by rw [e, Nat.mul_assoc]; omega
    rw [h1, h2, ih _ _ (by rw [e] at h; omega)]
    omega
theorem cnt_eq_zero {n : Nat} (h : cnt n = 0) : n = 0 := by
  induction n using Nat.strongRecOn with
  | _ n ih =>
    by_cases h0 : n = 0
    · exact h0
    · rw [cnt_step] at h
      have := ih (n / 2) (by omega) (by omega)
      omega
/-- The lowest bit that is set. -/
def low (n : Nat) : Nat := if h : n = 0 then 0 else if n % 2 = 1 then 0 else 1 + low (n / 2)
theorem low_odd {n : Nat} (h : n % 2 = 1) : low n = 0 := by rw [low]; split <;> simp_all
theorem low_even {n : Nat} (h0 : n ≠ 0) (h : n % 2 = 0) : low n = 1 + low (n / 2) := by rw [low, dif_neg h0, if_neg (by omega)]
theorem low_spec {n : Nat} (h0 : n ≠ 0) : n.testBit (low n) = true ∧ ∀ i, i < low n → n.testBit i = false := by
  induction n using Nat.strongRecOn with
  | _ n ih =>
    by_cases h : n % 2 = 1
    · rw [low_odd h]
      exact ⟨by simp [Nat.testBit_zero, h], fun i hi => by omega⟩
    · obtain ⟨a, b⟩ := ih (n / 2) (by omega) (by omega)
      rw [low_even h0 (by omega)]
      refine ⟨by rw [Nat.add_comm, Nat.testBit_add_one]; exact a, fun i hi => ?_⟩
      cases i with
      | zero => simp [Nat.testBit_zero, h]
      | succ i => rw [Nat.testBit_add_one]; exact b i (by omega)
theorem low_unique {n i : Nat} (h : n.testBit i = true) (h2 : ∀ j, j < i → n.testBit j = false) : low n = i := by
  have h0 : n ≠ 0 := by rintro rfl; simp at h
  obtain ⟨a, b⟩ := low_spec h0
  rcases Nat.lt_trichotomy (low n) i with h' | h' | h'
  · rw [h2 _ h'] at a; cases a
  · exact h'
  · rw [b _ h'] at h; cases h
theorem low_mul (n : Nat) (h0 : n ≠ 0) : low (18446744073709551616 * n) = 64 + low n := by
  obtain ⟨a, b⟩ := low_spec h0
  apply low_unique
  · have := testBit_add 0 n (64 + low n) (by decide)
    simp only [Nat.zero_add] at this
    rw [this, if_neg (by omega), show 64 + low n - 64 = low n by omega, a]
  · intro j hj
    have := testBit_add 0 n j (by decide)
    simp only [Nat.zero_add] at this
    rw [this]
    split
    · simp
    · exact b _ (by omega)
theorem low_add (a n : Nat) (h0 : a ≠ 0) (ha : a < 18446744073709551616) : low (a + 18446744073709551616 * n) = low a := by
  obtain ⟨h1, h2⟩ := low_spec h0
  have hl : low a < 64 := by
    rcases Nat.lt_or_ge (low a) 64 with h | h
    · exact h
    · rw [Nat.testBit_lt_two_pow (Nat.lt_of_lt_of_le (by rw [pow64]; exact ha : a < 2 ^ 64) (Nat.pow_le_pow_right (by decide) h))] at h1
      cases h1
  apply low_unique
  · rw [testBit_add _ _ _ ha, if_pos hl, h1]
  · intro j hj
    rw [testBit_add _ _ _ ha, if_pos (by omega), h2 j hj]
/-- As Go's First. -/
def firstZ (n : Nat) : Int := if n = 0 then -1 else (low n : Int)
theorem firstZ_neg {n : Nat} : firstZ n < 0 ↔ n = 0 := by
  unfold firstZ; split
  · simp_all
  · simp_all
theorem xor_eq_zero {a b : Nat} : a ^^^ b = 0 ↔ a = b := by
  constructor
  · intro h
    refine Nat.eq_of_testBit_eq fun i => ?_
    have := congrArg (fun n => n.testBit i) h
    simp only [Nat.testBit_xor, Nat.zero_testBit] at this
    revert this
    cases a.testBit i <;> cases b.testBit i <;> simp
  · rintro rfl; exact Nat.xor_self a
/-! popcount by the parallel sums -/
def m5 : Nat → Nat | 0 => 0 | n + 1 => 0x55 + 256 * m5 n
def m3 : Nat → Nat | 0 => 0 | n + 1 => 0x33 + 256 * m3 n
def mf : Nat → Nat | 0 => 0 | n + 1 => 0x0f + 256 * mf n
def s1 (m x : Nat) : Nat := ((x / 2) &&& m) + (x &&& m)
def s2 (m x : Nat) : Nat := ((x / 4) &&& m) + (x &&& m)
def s3 (m x : Nat) : Nat := (x / 16 + x) &&& m
theorem and_add8 (a b c d : Nat) (ha : a < 256) (hc : c < 256) : (a + 256 * b) &&& (c + 256 * d) = (a &&& c) + 256 * (b &&& d) := by
  have h1 : ((a + 256 * b) &&& (c + 256 * d)) % 2 ^ 8 = (a &&& c) := by
    rw [Nat.and_mod_two_pow, show (a + 256 * b) % 2 ^ 8 = a by simp; omega, show (c + 256 * d) % 2 ^ 8 = c by simp; omega]
  have h2 : ((a + 256 * b) &&& (c + 256 * d)) / 2 ^ 8 = (b &&& d) := by
    rw [Nat.and_div_two_pow, show (a + 256 * b) / 2 ^ 8 = b by simp; omega, show (c + 256 * d) / 2 ^ 8 = d by simp; omega]
  have := Nat.div_add_mod ((a + 256 * b) &&& (c + 256 * d)) (2 ^ 8)
  rw [h1, h2] at this
  omega
theorem byte1 : ∀ b : Nat, b < 256 → (∀ t : Nat, t < 2 → ((b / 2 + 128 * t) &&& 0x55) = ((b / 2) &&& 0x55)) ∧ s1 0x55 b < 256 := by decide +kernel
theorem byte2 : ∀ b : Nat, b < 256 → (∀ t : Nat, t < 4 → ((b / 4 + 64 * t) &&& 0x33) = ((b / 4) &&& 0x33)) ∧ s2 0x33 b < 256 := by decide +kernel
theorem s1_step (b y m : Nat) (hb : b < 256) : s1 (0x55 + 256 * m) (b + 256 * y) = s1 0x55 b + 256 * s1 m y := by
  unfold s1
  have e : (b + 256 * y) / 2 = (b / 2 + 128 * (y % 2)) + 256 * (y / 2) := by omega
  rw [e, and_add8 _ _ _ _ (by omega) (by decide), and_add8 _ _ _ _ hb (by decide), (byte1 b hb).1 (y % 2) (by omega)]
  omega
theorem s2_step (b y m : Nat) (hb : b < 256) : s2 (0x33 + 256 * m) (b + 256 * y) = s2 0x33 b + 256 * s2 m y := by
  unfold s2
  have e : (b + 256 * y) / 4 = (b / 4 + 64 * (y % 4)) + 256 * (y / 4) := by omega
  rw [e, and_add8 _ _ _ _ (by omega) (by decide), and_add8 _ _ _ _ hb (by decide), (byte2 b hb).1 (y % 4) (by omega)]
  omega
/-- The counts of the bytes, as digits. -/
def P : Nat → Nat → Nat | 0, _ => 0 | n + 1, x => cnt (x % 256) + 256 * P n (x / 256)
def Q : Nat → Nat → Nat | 0, _ => 0 | n + 1, x => s2 0x33 (s1 0x55 (x % 256)) + 256 * Q n (x / 256)
theorem s12 : ∀ (n x : Nat), x < 256 ^ n → s2 (m3 n) (s1 (m5 n) x) = Q n x
  | 0, x, h => by have : x = 0 := by simpa using h
                  subst this; simp [s1, s2, m3, m5, Q]
  | n + 1, x, h => by
    have e : x = x % 256 + 256 * (x / 256) := by omega
    have hb : x % 256 < 256 := by omega
    conv => lhs; rw [e]
    rw [m5, s1_step _ _ _ hb, m3, s2_step _ _ _ (byte1 _ hb).2, s12 n (x / 256) (by rw [Nat.pow_succ] at h; omega), Q]
theorem cnt_le (k : Nat) : ∀ n, n < 2 ^ k → cnt n ≤ k := by
  induction k with
  | zero => intro n h; have : n = 0 := by simpa using h
            subst this; simp [cnt_zero]
  | succ k ih =>
    intro n h
    rw [cnt_step]
    have := ih (n / 2) (by rw [Nat.pow_succ] at h; omega)
    omega
/-! rows, element by element -/
theorem ext_getD : ∀ {a b : List Int}, a.length = b.length → (∀ i, a.getD i 0 = b.getD i 0) → a = b
  | [], [], _, _ => rfl
  | x :: a, y :: b, hl, h => by
    have h0 := h 0
    simp only [List.getD_cons_zero] at h0
    have h1 : a = b := ext_getD (by simpa using hl) fun i => by have := h (i + 1); rwa [List.getD_cons_succ, List.getD_cons_succ] at this
    rw [h0, h1]
theorem getD_set (l : List Int) (i j : Nat) (x : Int) : (l.set i x).getD j 0 = if i = j ∧ i < l.length then x else l.getD j 0 := by
  simp only [List.getD_eq_getElem?_getD, List.getElem?_set]
  by_cases h : i = j
  · subst h
    by_cases h2 : i < l.length
    · simp [h2]
    · simp [h2]
  · simp [h]
theorem getD_xorL : ∀ {a b : List Int}, U a → U b → ∀ i, (xorL a b).getD i 0 = (((a.getD i 0).toNat ^^^ (b.getD i 0).toNat : Nat) : Int)
  | [], b, _, hb, i => by
    have := hb.getD i
    simp only [xorL, List.getD_nil, Int.toNat_zero, Nat.zero_xor]
    omega
  | x :: a, [], ha, _, i => by
    have := ha.getD i
    simp only [xorL, List.getD_nil, Int.toNat_zero, Nat.xor_zero]
    omega
  | x :: a, y :: b, ha, hb, i => by
    cases i with
    | zero => simp [xorL]
    | succ i => simpa [xorL] using getD_xorL ha.cons.2 hb.cons.2 i
theorem getD_append_zeros (l : List Int) (n i : Nat) : (l ++ List.replicate n 0).getD i 0 = l.getD i 0 := by
  simp only [List.getD_eq_getElem?_getD]
  by_cases h : i < l.length
  · rw [List.getElem?_append_left h]
  · rw [List.getElem?_append_right (by omega), List.getElem?_eq_none (l := l) (by omega), List.getElem?_replicate]
    split <;> rfl
theorem xorL_append_zeros {a b : List Int} (ha : U a) (hb : U b) {n : Nat} (hn : a.length + n = max a.length b.length) : xorL b (a ++ List.replicate n 0) = xorL a b := by
  refine ext_getD ?_ fun i => ?_
  · rw [xorL_length, xorL_length]; simp; omega
  · rw [getD_xorL hb (ha.append (U.replicate n)), getD_xorL ha hb, getD_append_zeros, Nat.xor_comm]
theorem U.take {l : List Int} (h : U l) (n : Nat) : U (l.take n) := fun x hx => h x (List.mem_of_mem_take hx)
theorem U.drop {l : List Int} (h : U l) (n : Nat) : U (l.drop n) := fun x hx => h x (List.mem_of_mem_drop hx)
theorem getD_take (l : List Int) (n i : Nat) : (l.take n).getD i 0 = if i < n then l.getD i 0 else 0 := by
  simp only [List.getD_eq_getElem?_getD, List.getElem?_take]
  split <;> rfl
/-- One round of xoring word by word. -/
theorem xor_round {a b : List Int} (ha : U a) (hb : U b) (hl : b.length ≤ a.length) {i : Nat} (hi : i < b.length) :
    (xorL (b.take i) a).set i ((((xorL (b.take i) a).getD i 0).toNat ^^^ (b.getD i 0).toNat : Nat) : Int) = xorL (b.take (i + 1)) a := by
  refine ext_getD ?_ fun j => ?_
  · rw [List.length_set, xorL_length, xorL_length]; simp; omega
  · rw [getD_set, getD_xorL (hb.take i) ha, getD_xorL (hb.take (i + 1)) ha, getD_xorL (hb.take i) ha, getD_take, getD_take, getD_take, xorL_length]
    simp only [Int.toNat_natCast, List.length_take]
    by_cases h : i = j
    · subst h
      rw [if_pos ⟨rfl, by omega⟩, if_neg (by omega), if_pos (by omega)]
      simp [Nat.xor_comm]
    · rw [if_neg (by omega)]
      by_cases h2 : j < i
      · rw [if_pos h2, if_pos (by omega)]
      · rw [if_neg h2, if_neg (by omega)]
theorem drop_cons {l : List Int} {i : Nat} (h : i < l.length) : l.drop i = l.getD i 0 :: l.drop (i + 1) := by
  rw [List.drop_eq_getElem_cons h, List.getD_eq_getElem?_getD, List.getElem?_eq_getElem h]; rfl
theorem val_drop {l : List Int} {i : Nat} (h : i < l.length) : val (l.drop i) = (l.getD i 0).toNat + 18446744073709551616 * val (l.drop (i + 1)) := by
  rw [drop_cons h]; rfl
theorem cnt_cons (a b : Nat) (h : a < 18446744073709551616) : cnt (a + 18446744073709551616 * b) = cnt a + cnt b := by
  have := cnt_split 64 a b (by rw [pow64]; exact h)
  rwa [pow64] at this
end Go.Proofs.YtbcphdbcdjdfpaaDoor.M
