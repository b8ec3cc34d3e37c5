/- Plain facts on rows of 64-bit words as one number: xor, the number of set bits (by the parallel sums), the lowest set bit. No program in sight. -/
namespace Go.Proofs.YtlpcphndgjibpaaDoor.M
/-- Numbers of 64 bits. -/
def U (l : List Int) : Prop := ∀ x ∈ l, 0 ≤ x ∧ x < 18446744073709551616
/-- A row of bits as one number. -/
def val : List Int → Nat
  | [] => 0
  | x :: l => x.toNat + 18446744073709551616 * val l
def xorL : List Int → List Int → List Int
  | [], b => b
  | a, [] => a
  | x :: a, y :: b => ((x.toNat ^^^ y.toNat : Nat) : Int) :: xorL a b
theorem U.cons {x : Int} {l : List Int} (h : U (x :: l)) : (0 ≤ x ∧ x < 18446744073709551616) ∧ U l := ⟨h x (by simp), fun y hy => h y (by simp [hy])⟩
theorem U.mk {x : Int} {l : List Int} (h0 : 0 ≤ x ∧ x < 18446744073709551616) (h : U l) : U (x :: l) := fun y hy => by
  rcases List.mem_cons.1 hy with rfl | h'
  · exact h0
  · exact h y h'
theorem U.nil : U [] := fun _ h => by cases h
theorem pow64 : (2 : Nat) ^ 64 = 18446744073709551616 := by decide
theorem testBit_add (a b i : Nat) (ha : a < 18446744073709551616) : (a + 18446744073709551616 * b).testBit i = if i < 64 then a.testBit i else b.testBit (i - 64) := by
  rw [Nat.add_comm, ← pow64]
  exact Nat.testBit_two_pow_mul_add b (by rw [pow64]; exact ha) i
theorem xorN_lt {a b : Nat} (ha : a < 18446744073709551616) (hb : b < 18446744073709551616) : a ^^^ b < 18446744073709551616 := by
  have := Nat.xor_lt_two_pow (n := 64) (by rw [pow64]; exact ha) (by rw [pow64]; exact hb)
  rwa [pow64] at this
theorem U_xorL : ∀ {a b : List Int}, U a → U b → U (xorL a b)
  | [], b, _, hb => by simpa [xorL] using hb
  | x :: a, [], ha, _ => by simpa [xorL] using ha
  | x :: a, y :: b, ha, hb => by
    obtain ⟨h1, h2⟩ := ha.cons
    obtain ⟨h3, h4⟩ := hb.cons
    have := xorN_lt (a := x.toNat) (b := y.toNat) (by omega) (by omega)
    exact U.mk (by omega) (U_xorL h2 h4)
theorem xorL_length : ∀ (a b : List Int), (xorL a b).length = max a.length b.length
  | [], b => by simp [xorL]
  | x :: a, [] => by simp [xorL]
  | x :: a, y :: b => by simp only [xorL, List.length_cons, xorL_length a b]; omega
theorem xorL_comm : ∀ (a b : List Int), xorL a b = xorL b a
  | [], [] => rfl
  | [], y :: b => by simp [xorL]
  | x :: a, [] => by simp [xorL]
  | x :: a, y :: b => by simp only [xorL, xorL_comm a b, Nat.xor_comm]
theorem U.getD {l : List Int} (h : U l) (i : Nat) : 0 ≤ l.getD i 0 ∧ l.getD i 0 < 18446744073709551616 := by
  rw [List.getD_eq_getElem?_getD]
  cases hx : l[i]? with
  | none => simp
  | some x => exact h x (List.mem_of_getElem? hx)
theorem U.set {l : List Int} (h : U l) (i : Nat) {x : Int} (hx : 0 ≤ x ∧ x < 18446744073709551616) : U (l.set i x) := fun y hy => by
  rcases List.mem_or_eq_of_mem_set hy with h' | rfl
  · exact h y h'
  · exact hx
theorem U.append {a b : List Int} (ha : U a) (hb : U b) : U (a ++ b) := fun y hy => by
  rcases List.mem_append.1 hy with h' | h'
  · exact ha y h'
  · exact hb y h'
theorem U.replicate (n : Nat) : U (List.replicate n 0) := fun y hy => by
  rw [List.eq_of_mem_replicate hy]; decide
/-- How many bits are set. -/
def cnt (n : Nat) : Nat := if h : n = 0 then 0 else n % 2 + cnt (n / 2)
theorem cnt_zero : cnt 0 = 0 := by rw [cnt]; simp
theorem cnt_step (n : Nat) : cnt n = n % 2 + cnt (n / 2) := by
  by_cases h : n = 0
  · subst h; simp [cnt_zero]
  · rw [cnt, dif_neg h]
theorem cnt_split (k : Nat) : ∀ (a b : Nat), a < 2 ^ k → cnt (a + 2 ^ k * b) = cnt a + cnt b := by
  induction k with
  | zero => intro a b h; have : a = 0 := by simpa using h
            subst this; simp [cnt_zero]
  | succ k ih =>
    intro a b h
    have e : (2 : Nat) ^ (k + 1) = 2 * 2 ^ k := by rw [Nat.pow_succ, Nat.mul_comm]
    rw [cnt_step, cnt_step a]
    have h1 : (a + 2 ^ (k + 1) * b) % 2 = a % 2 := by rw [e, Nat.mul_assoc]; omega
    have h2 : (a + 2 ^ (k + 1) * b) / 2 = a / 2 + 2 ^ k * b := by rw [e, Nat.mul_assoc]; omega
    rw [h1, h2, ih _ _ (by rw [e] at h; omega)]
    omega
/-- The lowest bit that is set. -/
def low (n : Nat) : Nat := if h : n = 0 then 0 else if n % 2 = 1 then 0 else 1 + low (n / 2)
theorem low_odd {n : Nat} (h : n % 2 = 1) : low n = 0 := by rw [low]; split <;> simp_all
theorem low_even {n : Nat} (h0 : n ≠ 0) (h : n % 2 = 0) : low n = 1 + low (n / 2) := by rw [low, dif_neg h0, if_neg (by omega)]
theorem low_spec {n : Nat} (h0 : n ≠ 0) : n.testBit (low n) = true ∧ ∀ i, i < low n → n.testBit i = false := by
  induction n using Nat.strongRecOn with
  | _ n ih =>
    by_cases h : n % 2 = 1
    · rw [low_odd h]
      exact ⟨by simp [Nat.testBit_zero, h], fun i hi => by omega⟩
    · obtain ⟨a, b⟩ := ih (n / 2) (by omega) (by omega)
      rw [low_even h0 (by omega)]
      refine ⟨by rw [Nat.add_comm, Nat.testBit_add_one]; exact a, fun i hi => ?_⟩
      cases i with
      | zero => simp [Nat.testBit_zero, h]
      | succ i => rw [Nat.testBit_add_one]; exact b i (by omega)
theorem low_unique {n i : Nat} (h : n.testBit i = true) (h2 : ∀ j, j < i → n.testBit j = false) : low n = i := by
  have h0 : n ≠ 0 := by rintro rfl; simp at h
  obtain ⟨a, b⟩ := low_spec h0
  rcases Nat.lt_trichotomy (low n) i with h' | h' | h'
  · rw [h2 _ h'] at a; cases a
  · exact h'
  · rw [b _ h'] at h; cases h
theorem low_mul (n : Nat) (h0 : n ≠ 0) : low (18446744073709551616 * n) = 64 + low n := by
  obtain ⟨a, b⟩ := low_spec h0
  apply low_unique
  · have := testBit_add 0 n (64 + low n) (by decide)
    simp only [Nat.zero_add] at this
    rw [this, if_neg (by omega), show 64 + low n - 64 = low n by omega, a]
  · intro j hj
    have := testBit_add 0 n j (by decide)
    simp only [Nat.zero_add] at this
    rw [this]
    split
    · simp
    · exact b _ (by omega)
theorem low_add (a n : Nat) (h0 : a ≠ 0) (ha : a < 18446744073709551616) : low (a + 18446744073709551616 * n) = low a := by
  obtain ⟨h1, h2⟩ := low_spec h0
  have hl : low a < 64 := by
    rcases Nat.lt_or_ge (low a) 64 with h | h
    · exact h
    · rw [Nat.testBit_lt_two_pow (Nat.lt_of_lt_of_le (by rw [pow64]; exact ha : a < 2 ^ 64) (Nat.pow_le_pow_right (by decide) h))] at h1
      cases h1
  apply low_unique
  · rw [testBit_add _ _ _ ha, if_pos hl, h1]
  · intro j hj
    rw [testBit_add _ _ _ ha, if_pos (by omega), h2 j hj]
/-- As Go's First. -/
def firstZ (n : Nat) : Int := if n = 0 then -1 else (low n : Int)
theorem firstZ_neg {n : Nat} : firstZ n < 0 ↔ n = 0 := by
  unfold firstZ; split
  · simp_all
  · simp_all
/-! popcount by the parallel sums -/
def m5 : Nat → Nat | 0 => 0 | n + 1 => 0x55 + 256 * m5 n
def m3 : Nat → Nat | 0 => 0 | n + 1 => 0x33 + 256 * m3 n
def mf : Nat → Nat | 0 => 0 | n + 1 => 0x0f + 256 * mf n
def s1 (m x : Nat) : Nat := ((x / 2) &&& m) + (x &&& m)
def s2 (m x : Nat) : Nat := ((x / 4) &&& m) + (x &&& m)
def s3 (m x : Nat) : Nat := (x / 16 + x) &&& m
theorem and_add8 (a b c d : Nat) (ha : a < 256) (hc : c < 256) : (a + 256 * b) &&& (c + 256 * d) = (a &&& c) + 256 * (b &&& d) := by
  have h1 : ((a + 256 * b) &&& (c + 256 * d)) % 2 ^ 8 = (a &&& c) := by
    rw [Nat.and_mod_two_pow, show (a + 256 * b) % 2 ^ 8 = a by simp; omega, show (c + 256 * d) % 2 ^ 8 = c by simp; omega]
  have h2 : ((a + 256 * b) &&& (c + 256 * d)) / 2 ^ 8 = (b &&& d) := by
    rw [Nat.and_div_two_pow, show (a + 256 * b) / 2 ^ 8 = b by simp; omega, show (c + 256 * d) / 2 ^ 8 = d by simp; omega]
  have := Nat.div_add_mod ((a + 256 * b) &&& (c + 256 * d)) (2 ^ 8)
  rw [h1, h2] at this
  omega
theorem byte1 : ∀ b : Nat, b < 256 → (∀ t : Nat, t < 2 → ((b / 2 + 128 * t) &&& 0x55) = ((b / 2) &&& 0x55)) ∧ s1 0x55 b < 256 := by decide +kernel
theorem byte2 : ∀ b : Nat, b < 256 → (∀ t : Nat, t < 4 → ((b / 4 + 64 * t) &&& 0x33) = ((b / 4) &&& 0x33)) ∧ s2 0x33 b < 256 := by decide +kernel
theorem s1_step (b y m : Nat) (hb : b < 256) : s1 (0x55 + 256 * m) (b + 256 * y) = s1 0x55 b + 256 * s1 m y := by
  unfold s1
  have e : (b + 256 * y) / 2 = (b / 2 + 128 * (y % 2)) + 256 * (y / 2) := by omega
  rw [e, and_add8 _ _ _ _ (by omega) (by decide), and_add8 _ _ _ _ hb (by decide), (byte1 b hb).1 (y % 2) (by omega)]
  omega
theorem s2_step (b y m : Nat) (hb : b < 256) : s2 (0x33 + 256 * m) (b + 256 * y) = s2 0x33 b + 256 * s2 m y := by
  unfold s2
  have e : (b + 256 * y) / 4 = (b / 4 + 64 * (y % 4)) + 256 * (y / 4) := by omega
  rw [e, and_add8 _ _ _ _ (by omega) (by decide), and_add8 _ _ _ _ hb (by decide), (byte2 b hb).1 (y % 4) (by omega)]
  omega
theorem byte3' : ∀ b : Nat, b < 256 → s2 0x33 (s1 0x55 b) < 128 ∧ s2 0x33 (s1 0x55 b) % 16 ≤ 4 ∧ s2 0x33 (s1 0x55 b) / 16 ≤ 4 ∧ (s2 0x33 (s1 0x55 b)) % 16 + (s2 0x33 (s1 0x55 b)) / 16 = cnt b := by decide +kernel
/-- The counts of the bytes, as digits. -/
def P : Nat → Nat → Nat | 0, _ => 0 | n + 1, x => cnt (x % 256) + 256 * P n (x / 256)
def Q : Nat → Nat → Nat | 0, _ => 0 | n + 1, x => s2 0x33 (s1 0x55 (x % 256)) + 256 * Q n (x / 256)
theorem s12 : ∀ (n x : Nat), x < 256 ^ n → s2 (m3 n) (s1 (m5 n) x) = Q n x
  | 0, x, h => by have : x = 0 := by simpa using h
                  subst this; simp [s1, s2, m3, m5, Q]
  | n + 1, x, h => by
    have e : x = x % 256 + 256 * (x / 256) := by omega
    have hb : x % 256 < 256 := by omega
    conv => lhs; rw [e]
    rw [m5, s1_step _ _ _ hb, m3, s2_step _ _ _ (byte1 _ hb).2, s12 n (x / 256) (by rw [Nat.pow_succ] at h; omega), Q]
theorem Q_lt (n : Nat) : ∀ x, Q n x < 256 ^ n := by
  induction n with
  | zero => intro x; simp [Q]
  | succ n ih =>
    intro x
    have := ih (x / 256)
    have h2 := (byte3' (x % 256) (by omega)).1
    rw [Q, Nat.pow_succ]
    omega
theorem Q_low (n x : Nat) : Q n x % 16 ≤ 4 := by
  cases n with
  | zero => simp [Q]
  | succ n =>
    have := (byte3' (x % 256) (by omega)).2.1
    rw [Q]; omega
/-- In the sum of the fourths no byte runs over into the next one. -/
theorem s3_Q (n : Nat) : ∀ x, s3 (mf n) (Q n x) = P n x := by
  induction n with
  | zero => intro x; simp [s3, mf, P]
  | succ n ih =>
    intro x
    obtain ⟨h1, h2, h3, h4⟩ := byte3' (x % 256) (by omega)
    have hl := Q_low n (x / 256)
    rw [Q, P, mf, ← ih (x / 256)]
    generalize hc : cnt (x % 256) = c at *
    generalize hq : s2 0x33 (s1 0x55 (x % 256)) = q at *
    generalize Q n (x / 256) = y at *
    unfold s3
    have e : (q + 256 * y) / 16 + (q + 256 * y) = (q / 16 + 16 * (y % 16) + q) + 256 * (y / 16 + y) := by omega
    rw [e, and_add8 _ _ _ _ (by omega) (by decide)]
    have : ((q / 16 + 16 * (y % 16) + q) &&& 0x0f) = c := by
      rw [show (0x0f : Nat) = 2 ^ 4 - 1 by decide, Nat.and_two_pow_sub_one_eq_mod]
      omega
    rw [this]
theorem cnt_le (k : Nat) : ∀ n, n < 2 ^ k → cnt n ≤ k := by
  induction k with
  | zero => intro n h; have : n = 0 := by simpa using h
            subst this; simp [cnt_zero]
  | succ k ih =>
    intro n h
    rw [cnt_step]
    have := ih (n / 2) (by rw [Nat.pow_succ] at h; omega)
    omega
theorem cnt_bytes (n : Nat) : ∀ x, x < 256 ^ n → cnt x = (match n with | 0 => 0 | _ + 1 => cnt (x % 256) + cnt (x / 256)) := by
  cases n with
  | zero => intro x h; have : x = 0 := by simpa using h
            subst this; simp [cnt_zero]
  | succ _ =>
    intro x _
    have := cnt_split 8 (x % 256) (x / 256) (by omega)
    rw [← this, show (2 : Nat) ^ 8 = 256 by decide]
    congr 1
    omega
theorem D1 (a b : Nat) (h : a < 256) : (a + 256 * b) / 256 = b := by omega
theorem D2 (a0 a1 b : Nat) (h0 : a0 < 256) (h1 : a1 < 256) : (a0 + 256 * (a1 + 256 * b)) / 65536 = b := by omega
theorem D4 (a0 a1 a2 a3 b : Nat) (h0 : a0 < 256) (h1 : a1 < 256) (h2 : a2 < 256) (h3 : a3 < 256) : (a0 + 256 * (a1 + 256 * (a2 + 256 * (a3 + 256 * b)))) / 4294967296 = b := by omega
theorem L1 (c1 c2 c3 c4 c5 c6 c7 c8 : Nat) : c2 + 256 * (c3 + 256 * (c4 + 256 * (c5 + 256 * (c6 + 256 * (c7 + 256 * (c8 + 256 * 0)))))) + (c1 + 256 * (c2 + 256 * (c3 + 256 * (c4 + 256 * (c5 + 256 * (c6 + 256 * (c7 + 256 * (c8 + 256 * 0)))))))) = (c1 + c2) + 256 * ((c2 + c3) + 256 * ((c3 + c4) + 256 * ((c4 + c5) + 256 * ((c5 + c6) + 256 * ((c6 + c7) + 256 * ((c7 + c8) + 256 * c8)))))) := by omega
theorem L2 (d1 d2 d3 d4 d5 d6 d7 d8 : Nat) : d3 + 256 * (d4 + 256 * (d5 + 256 * (d6 + 256 * (d7 + 256 * d8)))) + (d1 + 256 * (d2 + 256 * (d3 + 256 * (d4 + 256 * (d5 + 256 * (d6 + 256 * (d7 + 256 * d8))))))) = (d1 + d3) + 256 * ((d2 + d4) + 256 * ((d3 + d5) + 256 * ((d4 + d6) + 256 * ((d5 + d7) + 256 * ((d6 + d8) + 256 * (d7 + 256 * d8)))))) := by omega
theorem L3 (d1 d2 d3 d4 d5 d6 d7 d8 : Nat) : d5 + 256 * (d6 + 256 * (d7 + 256 * d8)) + (d1 + 256 * (d2 + 256 * (d3 + 256 * (d4 + 256 * (d5 + 256 * (d6 + 256 * (d7 + 256 * d8))))))) = (d1 + d5) + 256 * ((d2 + d6) + 256 * ((d3 + d7) + 256 * ((d4 + d8) + 256 * (d5 + 256 * (d6 + 256 * (d7 + 256 * d8)))))) := by omega
theorem B8 (d1 d2 d3 d4 d5 d6 d7 d8 : Nat) (h1 : d1 < 256) (h2 : d2 < 256) (h3 : d3 < 256) (h4 : d4 < 256) (h5 : d5 < 256) (h6 : d6 < 256) (h7 : d7 < 256) (h8 : d8 < 256) :
    d1 + 256 * (d2 + 256 * (d3 + 256 * (d4 + 256 * (d5 + 256 * (d6 + 256 * (d7 + 256 * d8)))))) < 18446744073709551616 := by omega
theorem B8' (d1 d2 d3 d4 d5 d6 d7 d8 : Nat) (h1 : d1 < 256) (h2 : d2 < 256) (h3 : d3 < 256) (h4 : d4 < 256) (h5 : d5 < 256) (h6 : d6 < 256) (h7 : d7 < 256) (h8 : d8 ≤ 8) :
    d1 + 256 * (d2 + 256 * (d3 + 256 * (d4 + 256 * (d5 + 256 * (d6 + 256 * (d7 + 256 * d8)))))) < 9223372036854775808 := by omega
theorem fold_digits (c1 c2 c3 c4 c5 c6 c7 c8 : Nat) (b1 : c1 ≤ 8) (b2 : c2 ≤ 8) (b3 : c3 ≤ 8) (b4 : c4 ≤ 8) (b5 : c5 ≤ 8) (b6 : c6 ≤ 8) (b7 : c7 ≤ 8) (b8 : c8 ≤ 8) :
    ∀ (y y1 y2 y3 : Nat) (_ : y = c1 + 256 * (c2 + 256 * (c3 + 256 * (c4 + 256 * (c5 + 256 * (c6 + 256 * (c7 + 256 * (c8 + 256 * 0))))))))
    (_ : y1 = y / 256 + y) (_ : y2 = y1 / 65536 + y1) (_ : y3 = y2 / 4294967296 + y2),
    y1 < 18446744073709551616 ∧ y2 < 18446744073709551616 ∧ y3 < 9223372036854775808 ∧ y3 % 128 = c1 + c2 + c3 + c4 + c5 + c6 + c7 + c8 := by
  have a0 : c1 < 256 := by omega
  have a1 : c1 + c2 < 256 := by omega
  have a2 : c2 + c3 < 256 := by omega
  have a3 : c3 + c4 < 256 := by omega
  have a4 : c4 + c5 < 256 := by omega
  have a5 : c5 + c6 < 256 := by omega
  have a6 : c6 + c7 < 256 := by omega
  have a7 : c7 + c8 < 256 := by omega
  have a8 : c8 < 256 := by omega
  have f1 : c1 + c2 + (c3 + c4) < 256 := by omega
  have f2 : c2 + c3 + (c4 + c5) < 256 := by omega
  have f3 : c3 + c4 + (c5 + c6) < 256 := by omega
  have f4 : c4 + c5 + (c6 + c7) < 256 := by omega
  have f5 : c5 + c6 + (c7 + c8) < 256 := by omega
  have f6 : c6 + c7 + c8 < 256 := by omega
  have g1 : c1 + c2 + (c3 + c4) + (c5 + c6 + (c7 + c8)) < 256 := by omega
  have g2 : c2 + c3 + (c4 + c5) + (c6 + c7 + c8) < 256 := by omega
  have g3 : c3 + c4 + (c5 + c6) + (c7 + c8) < 256 := by omega
  have g4 : c4 + c5 + (c6 + c7) + c8 < 256 := by omega
  have gm : ∀ z, (c1 + c2 + (c3 + c4) + (c5 + c6 + (c7 + c8)) + 256 * z) % 128 = c1 + c2 + c3 + c4 + c5 + c6 + c7 + c8 := fun z => by omega
  intro y y1 y2 y3 hy h1 h2 h3
  rw [hy, D1 _ _ a0, L1] at h1
  rw [h1, D2 _ _ _ a1 a2, L2] at h2
  rw [h2, D4 _ _ _ _ _ f1 f2 f3 f4, L3] at h3
  exact ⟨by rw [h1]; exact B8 _ _ _ _ _ _ _ _ a1 a2 a3 a4 a5 a6 a7 a8, by rw [h2]; exact B8 _ _ _ _ _ _ _ _ f1 f2 f3 f4 f5 f6 a7 a8, by rw [h3]; exact B8' _ _ _ _ _ _ _ _ g1 g2 g3 g4 f5 f6 a7 b8, by rw [h3]; exact gm _⟩
theorem fold_P (x : Nat) (h : x < 18446744073709551616) :
    ∀ y1 y2 y3, y1 = P 8 x / 256 + P 8 x → y2 = y1 / 65536 + y1 → y3 = y2 / 4294967296 + y2 →
    y1 < 18446744073709551616 ∧ y2 < 18446744073709551616 ∧ y3 < 9223372036854775808 ∧ y3 % 128 = cnt x := by
  have hb : ∀ z, cnt (z % 256) ≤ 8 := fun z => cnt_le 8 _ (by omega)
  have e1 := cnt_bytes 8 x (by simpa using h)
  have e2 := cnt_bytes 7 (x / 256) (by simp; omega)
  have e3 := cnt_bytes 6 (x / 256 / 256) (by simp; omega)
  have e4 := cnt_bytes 5 (x / 256 / 256 / 256) (by simp; omega)
  have e5 := cnt_bytes 4 (x / 256 / 256 / 256 / 256) (by simp; omega)
  have e6 := cnt_bytes 3 (x / 256 / 256 / 256 / 256 / 256) (by simp; omega)
  have e7 := cnt_bytes 2 (x / 256 / 256 / 256 / 256 / 256 / 256) (by simp; omega)
  have e8 := cnt_bytes 1 (x / 256 / 256 / 256 / 256 / 256 / 256 / 256) (by simp; omega)
  have e9 := cnt_bytes 0 (x / 256 / 256 / 256 / 256 / 256 / 256 / 256 / 256) (by simp; omega)
  have b1 := hb x
  have b2 := hb (x / 256)
  have b3 := hb (x / 256 / 256)
  have b4 := hb (x / 256 / 256 / 256)
  have b5 := hb (x / 256 / 256 / 256 / 256)
  have b6 := hb (x / 256 / 256 / 256 / 256 / 256)
  have b7 := hb (x / 256 / 256 / 256 / 256 / 256 / 256)
  have b8 := hb (x / 256 / 256 / 256 / 256 / 256 / 256 / 256)
  simp only at e1 e2 e3 e4 e5 e6 e7 e8 e9
  simp only [P]
  generalize cnt (x % 256) = c1 at *
  generalize cnt (x / 256 % 256) = c2 at *
  generalize cnt (x / 256 / 256 % 256) = c3 at *
  generalize cnt (x / 256 / 256 / 256 % 256) = c4 at *
  generalize cnt (x / 256 / 256 / 256 / 256 % 256) = c5 at *
  generalize cnt (x / 256 / 256 / 256 / 256 / 256 % 256) = c6 at *
  generalize cnt (x / 256 / 256 / 256 / 256 / 256 / 256 % 256) = c7 at *
  generalize cnt (x / 256 / 256 / 256 / 256 / 256 / 256 / 256 % 256) = c8 at *
  have es : cnt x = c1 + c2 + c3 + c4 + c5 + c6 + c7 + c8 := by omega
  rw [es]
  clear e1 e2 e3 e4 e5 e6 e7 e8 e9 es hb h
  intro y1 y2 y3 h1 h2 h3
  exact fold_digits c1 c2 c3 c4 c5 c6 c7 c8 b1 b2 b3 b4 b5 b6 b7 b8 _ y1 y2 y3 rfl h1 h2 h3
/-! rows, element by element -/
theorem ext_getD : ∀ {a b : List Int}, a.length = b.length → (∀ i, a.getD i 0 = b.getD i 0) → a = b
  | [], [], _, _ => rfl
  | x :: a, y :: b, hl, h => by
    have h0 := h 0
    simp only [List.getD_cons_zero] at h0
    have h1 : a = b := ext_getD (by simpa using hl) fun i => by have := h (i + 1); rwa [List.getD_cons_succ, List.getD_cons_succ] at this
    rw [h0, h1]
theorem getD_set (l : List Int) (i j : Nat) (x : Int) : (l.set i x).getD j 0 = if i = j ∧ i < l.length then x else l.getD j 0 := by
  simp only [List.getD_eq_getElem?_getD, List.getElem?_set]
  by_cases h : i = j
  · subst h
    by_cases h2 : i < l.length
    · simp [h2]
    · simp [h2]
  · simp [h]
theorem getD_xorL : ∀ {a b : List Int}, U a → U b → ∀ i, (xorL a b).getD i 0 = (((a.getD i 0).toNat ^^^ (b.getD i 0).toNat : Nat) : Int)
  | [], b, _, hb, i => by
    have := hb.getD i
    simp only [xorL, List.getD_nil, Int.toNat_zero, Nat.zero_xor]
    omega
  | x :: a, [], ha, _, i => by
    have := ha.getD i
    simp only [xorL, List.getD_nil, Int.toNat_zero, Nat.xor_zero]
    omega
  | x :: a, y :: b, ha, hb, i => by
    cases i with
    | zero => simp [xorL]
    | succ i => simpa [xorL] using getD_xorL ha.cons.2 hb.cons.2 i
theorem getD_append_zeros (l : List Int) (n i : Nat) : (l ++ List.replicate n 0).getD i 0 = l.getD i 0 := by
  simp only [List.getD_eq_getElem?_getD]
  by_cases h : i < l.length
  · rw [List.getElem?_append_left h]
  · rw [List.getElem?_append_right (by omega), List.getElem?_eq_none (l := l) (by omega), List.getElem?_replicate]
    split <;> rfl
theorem xorL_append_zeros {a b : List Int} (ha : U a) (hb : U b) {n : Nat} (hn : a.length + n = max a.length b.length) : xorL b (a ++ List.replicate n 0) = xorL a b := by
  refine ext_getD ?_ fun i => ?_
  · rw [xorL_length, xorL_length]; simp; omega
  · rw [getD_xorL hb (ha.append (U.replicate n)), getD_xorL ha hb, getD_append_zeros, Nat.xor_comm]
theorem U.take {l : List Int} (h : U l) (n : Nat) : U (l.take n) := fun x hx => h x (List.mem_of_mem_take hx)
theorem U.drop {l : List Int} (h : U l) (n : Nat) : U (l.drop n) := fun x hx => h x (List.mem_of_mem_drop hx)
theorem getD_take (l : List Int) (n i : Nat) : (l.take n).getD i 0 = if i < n then l.getD i 0 else 0 := by
  simp only [List.getD_eq_getElem?_getD, List.getElem?_take]
  split <;> rfl
/-- One round of xoring word by word. -/
theorem xor_round {a b : List Int} (ha : U a) (hb : U b) (hl : b.length ≤ a.length) {i : Nat} (hi : i < b.length) :
    (xorL (b.take i) a).set i ((((xorL (b.take i) a).getD i 0).toNat ^^^ (b.getD i 0).toNat : Nat) : Int) = xorL (b.take (i + 1)) a := by
  refine ext_getD ?_ fun j => ?_
  · rw [List.length_set, xorL_length, xorL_length]; simp; omega
  · rw [getD_set, getD_xorL (hb.take i) ha, getD_xorL (hb.take (i + 1)) ha, getD_xorL (hb.take i) ha, getD_take, getD_take, getD_take, xorL_length]
    simp only [Int.toNat_natCast, List.length_take]
    by_cases h : i = j
    · subst h
      rw [if_pos ⟨rfl, by omega⟩, if_neg (by omega), if_pos (by omega)]
      simp [Nat.xor_comm]
    · rw [if_neg (by omega)]
      by_cases h2 : j < i
      · rw [if_pos h2, if_pos (by omega)]
      · rw [if_neg h2, if_neg (by omega)]
theorem drop_cons {l : List Int} {i : Nat} (h : i < l.length) : l.drop i = l.getD i 0 :: l.drop (i + 1) := by
  rw [List.drop_eq_getElem_cons h, List.getD_eq_getElem?_getD, List.getElem?_eq_getElem h]; rfl
theorem val_drop {l : List Int} {i : Nat} (h : i < l.length) : val (l.drop i) = (l.getD i 0).toNat + 18446744073709551616 * val (l.drop (i + 1)) := by
  rw [drop_cons h]; rfl
theorem cnt_cons (a b : Nat) (h : a < 18446744073709551616) : cnt (a + 18446744073709551616 * b) = cnt a + cnt b := by
  have := cnt_split 64 a b (by rw [pow64]; exact h)
  rwa [pow64] at this
end Go.Proofs.YtlpcphndgjibpaaDoor.M
