/- What the printed functions of words and the rest of its reference come to. -/
import Derived.Test.YtkailkcfhkooeaaDoorSr
import Derived.Test.YtkailkcfhkooeaaDoorP3
import Derived.Test.YtkailkcfhkooeaaDoorP4
import Derived.Test.YtkailkcfhkooeaaDoorP5
import Derived.Test.YtkailkcfhkooeaaDoorP6
namespace Go.Proofs.YtkailkcfhkooeaaDoor.S
open Go.RowKit Go.Proofs.YtkailkcfhkooeaaDoor.P Go.Proofs.YtkailkcfhkooeaaDoorW.PrintWords Go.Proofs.YtkailkcfhkooeaaDoorW.PrintLast Go.Proofs.YtkailkcfhkooeaaDoorW.PrintMore Go.Proofs.YtkailkcfhkooeaaDoor.M
set_option linter.unusedVariables false
set_option linter.unusedSimpArgs false
theorem words_Get {l : List Int} (hu : U l) {i : Int} (h0 : -9223372036854775808 ≤ i) (h1 : i ≤ 9223372036854775807) : words_Get.f l i = some (getB l i) := by
  unfold words_Get.f getB
  by_cases hi : i ≥ 0
  · obtain ⟨n, rfl⟩ := Int.eq_ofNat_of_zero_le hi
    have e1 : wrap64 (Int.tdiv (n : Int) 64) = ((n / 64 : Nat) : Int) := by rw [Int.tdiv_eq_ediv_of_nonneg hi, w64 (by omega) (by omega)]; omega
    have e2 : Int.tmod (n : Int) 64 = ((n % 64 : Nat) : Int) := by rw [Int.tmod_eq_emod_of_nonneg hi]; omega
    rw [if_pos hi, e1, e2]
    simp only [ge_iff_le, hi, decide_true, Bool.true_and, Int.toNat_natCast]
    by_cases h : ((n / 64 : Nat) : Int) < (l.length : Int)
    · rw [if_pos h, if_pos (by omega), if_pos (by omega), get_core hu]
    · rw [if_neg h, past_len hu (by omega)]
  · rw [if_neg hi]; simp; omega
/-! own, Xor -/
theorem mx_len (n m : Nat) : mx (n : Int) (m : Int) = ((max n m : Nat) : Int) := by unfold mx; split <;> omega
theorem own_loop {l : List Int} (hu : U l) {N : Nat} (hN : l.length ≤ N) (hN2 : N ≤ 17592186044416) (d : Nat) : ∀ i : Nat, i + d = l.length → Ev (fun q => words_own.l0 q (xorL (l.take i) (List.replicate N 0)) l (l.length : Int) (i : Int)) (xorL l (List.replicate N 0)) := by
  induction d with
  | zero =>
    intro i hi
    refine Ev.step (f := fun _ => some (xorL l (List.replicate N 0))) (fun q => ?_) (Ev.now _)
    simp only [words_own.l0]
    rw [if_neg (by omega), List.take_of_length_le (by omega)]
  | succ d ih =>
    intro i hi
    have hlen : (xorL (l.take i) (List.replicate N 0)).length = N := by rw [xorL_length]; simp; omega
    have hr := xor_round (U.replicate N) hu (by simpa using hN) (i := i) (by omega)
    have e : ((((xorL (l.take i) (List.replicate N 0)).getD i 0).toNat ^^^ (l.getD i 0).toNat : Nat) : Int) = rd l (i : Int) := by
      have := hu.getD i
      rw [getD_xorL (hu.take i) (U.replicate N), getD_take, if_neg (by omega), rd_nat]
      have h0 : (List.replicate N (0 : Int)).getD i 0 = 0 := by
        rw [List.getD_eq_getElem?_getD, List.getElem?_replicate]; split <;> rfl
      rw [h0]
      simp only [Int.toNat_zero, Nat.xor_self, Int.toNat_natCast, Nat.zero_xor]
      omega
    rw [e] at hr
    have h := ih (i + 1) (by omega)
    rw [← hr] at h
    refine Ev.step (fun q => ?_) h
    simp only [words_own.l0]
    rw [if_pos (by omega), if_pos (by omega), if_pos (by omega), if_pos (by rw [hlen]; omega), w64 (by omega) (by omega), Int.toNat_natCast, show (i : Int) + 1 = ((i + 1 : Nat) : Int) by omega]
theorem xorL_zeros {l : List Int} (hu : U l) {N : Nat} (hN : l.length ≤ N) : xorL l (List.replicate N 0) = l ++ List.replicate (N - l.length) 0 := by
  refine ext_getD ?_ fun i => ?_
  · rw [xorL_length]; simp; omega
  · rw [getD_xorL hu (U.replicate N), getD_append_zeros]
    have h0 : (List.replicate N (0 : Int)).getD i 0 = 0 := by
      rw [List.getD_eq_getElem?_getD, List.getElem?_replicate]; split <;> rfl
    have := hu.getD i
    rw [h0]
    simp only [Int.toNat_zero, Nat.xor_zero]
    omega
theorem own {l : List Int} (hu : U l) {n : Nat} (h1 : l.length ≤ 17592186044416) (h2 : n ≤ 17592186044416) : Ev (fun q => words_own.f q l (n : Int)) (l ++ List.replicate (max l.length n - l.length) 0) := by
  unfold words_own.f
  rw [mx_len]
  have a1 : (0 : Int) ≤ ((max l.length n : Nat) : Int) := by omega
  have a2 : (((max l.length n : Nat) : Int)).toNat ≤ 35184372088832 := by omega
  simp only [a1, a2, if_true]
  have := own_loop hu (N := max l.length n) (by omega) (by omega) l.length 0 (by omega)
  rw [xorL_zeros hu (by omega)] at this
  simpa [xorL] using this
theorem Xor_loop {a b : List Int} (ha : U a) (hb : U b) (hl : b.length ≤ a.length) (ha2 : a.length ≤ 17592186044416) (d : Nat) : ∀ i : Nat, i + d = b.length → Ev (fun q => words_Xor.l0 q (xorL (b.take i) a) b (b.length : Int) (i : Int)) (xorL b a) := by
  induction d with
  | zero =>
    intro i hi
    refine Ev.step (f := fun _ => some (xorL b a)) (fun q => ?_) (Ev.now _)
    simp only [words_Xor.l0]
    rw [if_neg (by omega), List.take_of_length_le (by omega)]
  | succ d ih =>
    intro i hi
    have hlen : (xorL (b.take i) a).length = a.length := by rw [xorL_length]; simp; omega
    refine Ev.step (fun q => ?_) (ih (i + 1) (by omega))
    simp only [words_Xor.l0]
    rw [if_pos (by omega), if_pos (by omega), if_pos (by omega), if_pos (by rw [hlen]; omega), rd_nat, rd_nat, xor64 ((U_xorL (hb.take i) ha).getD i) (hb.getD i), Int.toNat_natCast, xor_round ha hb hl (by omega), w64 (by omega) (by omega), show (i : Int) + 1 = ((i + 1 : Nat) : Int) by omega]
theorem Xor {a b : List Int} (ha : U a) (hb : U b) (h1 : a.length ≤ 17592186044416) (h2 : b.length ≤ 17592186044416) : Ev (fun q => words_Xor.f q a b) (xorL a b) := by
  unfold words_Xor.f
  refine Ev.bind (own ha h1 h2) ?_
  have := Xor_loop (ha.append (U.replicate (max a.length b.length - a.length))) hb (by simp; omega) (by simp; omega) b.length 0 (by omega)
  rw [xorL_append_zeros ha hb (by omega)] at this
  simpa [xorL] using this
/-! Count -/
theorem OnesCount (x : Nat) (hx : x < 18446744073709551616) : bits_OnesCount64.f (x : Int) = some (cnt x : Int) := by
  obtain ⟨h1, h2, h3⟩ := swar x hx
  have hT := Q_top x
  have e1 : IntKind.u64.wrap ((Go.bits .and .u64 ((x : Int) / 2) 6148914691236517205) + (Go.bits .and .u64 (x : Int) 6148914691236517205)) = ((s1 (m5 8) x : Nat) : Int) := by
    rw [and64 (by omega) (by decide), and64 (by omega) (by decide), show ((x : Int) / 2).toNat = x / 2 by omega, Int.toNat_natCast, show (6148914691236517205 : Int).toNat = m5 8 by decide]
    unfold s1 at h1 ⊢
    rw [wu64 (by omega) (by omega)]
    omega
  unfold bits_OnesCount64.f
  rw [e1]
  have e2 : IntKind.u64.wrap ((Go.bits .and .u64 (((s1 (m5 8) x : Nat) : Int) / 4) 3689348814741910323) + (Go.bits .and .u64 ((s1 (m5 8) x : Nat) : Int) 3689348814741910323)) = ((Q 8 x : Nat) : Int) := by
    rw [and64 (by omega) (by decide), and64 (by omega) (by decide), Int.toNat_natCast, show (3689348814741910323 : Int).toNat = m3 8 by decide, show (((s1 (m5 8) x : Nat) : Int) / 4).toNat = s1 (m5 8) x / 4 by omega]
    have e : s2 (m3 8) (s1 (m5 8) x) = Q 8 x := h2
    unfold s2 at e
    rw [wu64 (by omega) (by omega)]
    omega
  rw [e2]
  have e3 : Go.bits .and .u64 (IntKind.u64.wrap (((Q 8 x : Nat) : Int) / 16 + ((Q 8 x : Nat) : Int))) 1085102592571150095 = ((P 8 x : Nat) : Int) := by
    rw [wu64 (by omega) (by omega), and64 (by omega) (by decide), show (1085102592571150095 : Int).toNat = mf 8 by decide, show (((Q 8 x : Nat) : Int) / 16 + ((Q 8 x : Nat) : Int)).toNat = Q 8 x / 16 + Q 8 x by omega]
    have := s3_Q 8 x
    unfold s3 at this
    rw [this]
  rw [e3]
  obtain ⟨a1, a2, a3, a4⟩ := fold_P x hx _ _ _ rfl rfl rfl
  generalize P 8 x = p at *
  have f1 : IntKind.u64.wrap ((p : Int) + (p : Int) / 256) = ((p / 256 + p : Nat) : Int) := by rw [wu64 (by omega) (by omega)]; omega
  rw [f1]
  generalize hp1 : p / 256 + p = p1 at *
  have f2 : IntKind.u64.wrap ((p1 : Int) + (p1 : Int) / 65536) = ((p1 / 65536 + p1 : Nat) : Int) := by rw [wu64 (by omega) (by omega)]; omega
  rw [f2]
  generalize hp2 : p1 / 65536 + p1 = p2 at *
  have f3 : IntKind.u64.wrap ((p2 : Int) + (p2 : Int) / 4294967296) = ((p2 / 4294967296 + p2 : Nat) : Int) := by rw [wu64 (by omega) (by omega)]; omega
  rw [f3]
  generalize hp3 : p2 / 4294967296 + p2 = p3 at *
  rw [← a4]
  rw [w64 (by omega) (by omega), and_i64_127 _ a3]
theorem Count_loop {l : List Int} (hu : U l) (hl : l.length ≤ 17592186044416) (d : Nat) : ∀ (i n : Nat), i + d = l.length → n ≤ 64 * i → Ev (fun q => words_Count.l0 q (n : Int) l (l.length : Int) (i : Int)) ((n + cnt (val (l.drop i)) : Nat) : Int) := by
  induction d with
  | zero =>
    intro i n hi hn
    refine Ev.step (f := fun _ => some ((n + cnt (val (l.drop i)) : Nat) : Int)) (fun q => ?_) (Ev.now _)
    simp only [words_Count.l0]
    rw [if_neg (by omega), List.drop_of_length_le (by omega)]
    simp [val, cnt_zero]
  | succ d ih =>
    intro i n hi hn
    have hx := hu.getD i
    obtain ⟨x, hxe⟩ := Int.eq_ofNat_of_zero_le hx.1
    rw [hxe] at hx
    have hc : cnt x ≤ 64 := cnt_le 64 x (by rw [pow64]; omega)
    have e : cnt (val (l.drop i)) = cnt x + cnt (val (l.drop (i + 1))) := by
      rw [val_drop (by omega), hxe, Int.toNat_natCast, cnt_cons _ _ (by omega)]
    have h := ih (i + 1) (n + cnt x) (by omega) (by omega)
    rw [show n + cnt (val (l.drop i)) = n + cnt x + cnt (val (l.drop (i + 1))) by omega]
    refine Ev.step (fun q => ?_) h
    simp only [words_Count.l0]
    rw [if_pos (by omega), if_pos (by omega), if_pos (by omega), rd_nat, hxe, OnesCount _ (by omega)]
    simp only [Option.bind_some]
    rw [w64 (by omega) (by omega), w64 (by omega) (by omega), show (n : Int) + (cnt x : Int) = ((n + cnt x : Nat) : Int) by omega, show (i : Int) + 1 = ((i + 1 : Nat) : Int) by omega]
theorem Count {l : List Int} (hu : U l) (hl : l.length ≤ 17592186044416) : Ev (fun q => words_Count.f q l) (cnt (val l) : Int) := by
  have := Count_loop hu hl l.length 0 0 (by omega) (by omega)
  simpa [words_Count.f] using this
/-! First -/
theorem First_loop {l : List Int} (hu : U l) (hl : l.length ≤ 17592186044416) (d : Nat) : ∀ (i : Nat), i + d = l.length → Ev (fun q => words_First.l0 q l (l.length : Int) (i : Int)) (if val (l.drop i) = 0 then -1 else ((64 * i + low (val (l.drop i)) : Nat) : Int)) := by
  induction d with
  | zero =>
    intro i hi
    refine Ev.step (f := fun _ => some (-1)) (fun q => ?_) (by rw [List.drop_of_length_le (by omega), val, if_pos rfl]; exact Ev.now _)
    simp only [words_First.l0]
    rw [if_neg (by omega)]
  | succ d ih =>
    intro i hi
    have hx := hu.getD i
    obtain ⟨x, hxe⟩ := Int.eq_ofNat_of_zero_le hx.1
    rw [hxe] at hx
    have hv := val_drop (l := l) (i := i) (by omega)
    rw [hxe, Int.toNat_natCast] at hv
    by_cases h0 : x = 0
    · have h := ih (i + 1) (by omega)
      rw [h0, Nat.zero_add] at hv
      have e : (if val (l.drop i) = 0 then (-1 : Int) else ((64 * i + low (val (l.drop i)) : Nat) : Int)) = (if val (l.drop (i + 1)) = 0 then -1 else ((64 * (i + 1) + low (val (l.drop (i + 1))) : Nat) : Int)) := by
        by_cases hz : val (l.drop (i + 1)) = 0
        · rw [hv, hz]; simp
        · rw [if_neg hz, if_neg (by omega), hv, low_mul _ hz]; congr 1; omega
      rw [e]
      refine Ev.step (fun q => ?_) h
      simp only [words_First.l0]
      rw [if_pos (by omega), if_pos (by omega), if_pos (by omega), rd_nat, hxe, if_pos (by omega), w64 (by omega) (by omega), show (i : Int) + 1 = ((i + 1 : Nat) : Int) by omega]
    · have hlw : low x < 64 := by
        have := (low_spec h0).1
        rcases Nat.lt_or_ge (low x) 64 with h | h
        · exact h
        · rw [Nat.testBit_lt_two_pow (Nat.lt_of_lt_of_le (by rw [pow64]; omega : x < 2 ^ 64) (Nat.pow_le_pow_right (by decide) h))] at this
          cases this
      rw [hv, if_neg (by omega), low_add _ _ h0 (by omega)]
      refine Ev.step (f := fun _ => some ((64 * i + low x : Nat) : Int)) (fun q => ?_) (Ev.now _)
      simp only [words_First.l0]
      rw [if_pos (by omega), if_pos (by omega), if_pos (by omega), rd_nat, hxe, if_neg (by omega)]
      unfold bits_TrailingZeros64.f
      rw [if_pos (by omega), if_pos (by omega), Int.toNat_natCast, ctz_low x h0 (by omega)]
      simp only [Option.bind_some]
      rw [w64 (x := 64 * (i : Int)) (by omega) (by omega), w64 (by omega) (by omega)]
      congr 1
theorem First {l : List Int} (hu : U l) (hl : l.length ≤ 17592186044416) : Ev (fun q => words_First.f q l) (firstZ (val l)) := by
  have := First_loop hu hl l.length 0 (by omega)
  unfold firstZ
  simpa [words_First.f] using this
theorem Same {a b : List Int} (ha : U a) (hb : U b) (h1 : a.length ≤ 17592186044416) (h2 : b.length ≤ 17592186044416) : Ev (fun q => words_Same.f q a b) (decide (val a = val b)) := by
  unfold words_Same.f
  refine Ev.bind (Xor ha hb h1 h2) ?_
  have hl : (xorL a b).length ≤ 17592186044416 := by rw [xorL_length]; omega
  refine Ev.bind (First (U_xorL ha hb) hl) ?_
  have e : decide (firstZ (val (xorL a b)) < 0) = decide (val a = val b) := by
    rw [decide_eq_decide, firstZ_neg, val_xorL ha hb, xor_eq_zero]
  rw [e]
  exact Ev.now _
theorem ref_First_bit {l : List Int} (hu : U l) (hl : l.length ≤ 17592186044416) (h0 : val l ≠ 0) (d : Nat) : ∀ n : Nat, n + d = low (val l) → Ev (fun q => bucketlineref01_First.l1 q l (n : Int)) ((low (val l) : Nat) : Int) := by
  have hlow : low (val l) < 64 * l.length := by
    rcases Nat.lt_or_ge (low (val l)) (64 * l.length) with h | h
    · exact h
    · have := (low_spec h0).1
      rw [Nat.testBit_lt_two_pow (Nat.lt_of_lt_of_le (val_lt hu) (Nat.pow_le_pow_right (by decide) h))] at this
      cases this
  induction d with
  | zero =>
    intro n hn
    refine Ev.step (f := fun _ => some ((low (val l) : Nat) : Int)) (fun q => ?_) (Ev.now _)
    simp only [bucketlineref01_First.l1]
    rw [ref_Get hu (by omega) (by omega)]
    simp only [Option.bind_some, getB, Int.toNat_natCast]
    rw [show n = low (val l) by omega, (low_spec h0).1]
    simp
  | succ d ih =>
    intro n hn
    refine Ev.step (fun q => ?_) (ih (n + 1) (by omega))
    simp only [bucketlineref01_First.l1]
    rw [ref_Get hu (by omega) (by omega)]
    simp only [Option.bind_some, getB, Int.toNat_natCast]
    rw [(low_spec h0).2 n (by omega), if_neg (by simp), w64 (by omega) (by omega), show (n : Int) + 1 = ((n + 1 : Nat) : Int) by omega]
theorem ref_First_loop {l : List Int} (hu : U l) (hl : l.length ≤ 17592186044416) (d : Nat) : ∀ (i : Nat), i + d = l.length → (∀ j, j < 64 * i → (val l).testBit j = false) → Ev (fun q => bucketlineref01_First.l0 q l (i : Int)) (firstZ (val l)) := by
  induction d with
  | zero =>
    intro i hi hz
    have : val l = 0 := by
      refine Nat.eq_of_testBit_eq fun j => ?_
      rw [Nat.zero_testBit]
      rcases Nat.lt_or_ge j (64 * i) with h | h
      · exact hz j h
      · exact past_len hu (by omega)
    rw [this]
    refine Ev.step (f := fun _ => some (-1)) (fun q => ?_) (Ev.now _)
    simp only [bucketlineref01_First.l0]
    rw [if_neg (by omega)]
  | succ d ih =>
    intro i hi hz
    have hx := hu.getD i
    by_cases h0 : l.getD i 0 = 0
    · refine Ev.step (fun q => ?_) (ih (i + 1) (by omega) fun j hj => ?_)
      · simp only [bucketlineref01_First.l0]
        rw [if_pos (by omega), if_pos (by omega), rd_nat, h0, if_pos rfl, w64 (by omega) (by omega), show (i : Int) + 1 = ((i + 1 : Nat) : Int) by omega]
      · rcases Nat.lt_or_ge j (64 * i) with h | h
        · exact hz j h
        · rw [testBit_val hu, show j / 64 = i by omega, h0]; simp
    · have hne : val l ≠ 0 := by
        intro h
        have : ∀ j, (l.getD i 0).toNat.testBit j = false := fun j => by
          rcases Nat.lt_or_ge j 64 with hj | hj
          · have := testBit_val hu (64 * i + j)
            rw [h, Nat.zero_testBit, show (64 * i + j) / 64 = i by omega, show (64 * i + j) % 64 = j by omega] at this
            exact this.symm
          · exact Nat.testBit_lt_two_pow (Nat.lt_of_lt_of_le (by rw [pow64]; omega : (l.getD i 0).toNat < 2 ^ 64) (Nat.pow_le_pow_right (by decide) hj))
        have : (l.getD i 0).toNat = 0 := Nat.eq_of_testBit_eq fun j => by rw [this j, Nat.zero_testBit]
        omega
      have hle : 64 * i ≤ low (val l) := by
        rcases Nat.lt_or_ge (low (val l)) (64 * i) with h | h
        · have := (low_spec hne).1
          rw [hz _ h] at this
          cases this
        · exact h
      have h := ref_First_bit hu hl hne (low (val l) - 64 * i) (64 * i) (by omega)
      rw [show firstZ (val l) = ((low (val l) : Nat) : Int) by unfold firstZ; rw [if_neg hne]]
      refine Ev.step (fun q => ?_) h
      simp only [bucketlineref01_First.l0]
      rw [if_pos (by omega), if_pos (by omega), rd_nat, if_neg h0, w64 (by omega) (by omega), show 64 * (i : Int) = ((64 * i : Nat) : Int) by omega]
theorem ref_First {l : List Int} (hu : U l) (hl : l.length ≤ 17592186044416) : Ev (fun q => bucketlineref01_First.f q l) (firstZ (val l)) := by
  have := ref_First_loop hu hl l.length 0 (by omega) (fun j hj => by omega)
  simpa [bucketlineref01_First.f] using this
/-! Set -/
/-- A word with a bit. -/
def wset (x : Int) (b : Nat) (on : Bool) : Int := if x.toNat.testBit b = on then x else ((x.toNat ^^^ 2 ^ b : Nat) : Int)
theorem pow_lt64 {b : Nat} (h : b < 64) : 2 ^ b < 18446744073709551616 := by rw [← pow64]; exact Nat.pow_lt_pow_right (by decide) h
theorem testBit_wset (x : Int) (b : Nat) (on : Bool) (j : Nat) : (wset x b on).toNat.testBit j = if j = b then on else x.toNat.testBit j := by
  unfold wset
  by_cases h : x.toNat.testBit b = on
  · rw [if_pos h]
    by_cases hj : j = b
    · rw [if_pos hj, hj, h]
    · rw [if_neg hj]
  · rw [if_neg h, Int.toNat_natCast, Nat.testBit_xor, Nat.testBit_two_pow]
    by_cases hj : j = b
    · subst hj; simp; revert h; cases x.toNat.testBit j <;> cases on <;> simp
    · rw [if_neg hj, decide_eq_false (fun h' => hj h'.symm), Bool.xor_false]
theorem wset_U {x : Int} (h : 0 ≤ x ∧ x < 18446744073709551616) {b : Nat} (hb : b < 64) (on : Bool) : 0 ≤ wset x b on ∧ wset x b on < 18446744073709551616 := by
  unfold wset
  split
  · exact h
  · have := xorN_lt (a := x.toNat) (by omega) (pow_lt64 hb)
    omega
theorem andNot64 {a b : Int} (ha : 0 ≤ a ∧ a < 18446744073709551616) (hb : 0 ≤ b ∧ b < 18446744073709551616) : ∃ n : Nat, Go.bits .andNot .u64 a b = (n : Int) ∧ n < 18446744073709551616 ∧ ∀ j, n.testBit j = (a.toNat.testBit j && !b.toNat.testBit j) := by
  obtain ⟨x, rfl⟩ := Int.eq_ofNat_of_zero_le ha.1
  obtain ⟨y, rfl⟩ := Int.eq_ofNat_of_zero_le hb.1
  have h1 : (BitVec.ofInt 64 (x : Int)).toNat = x := by
    rw [BitVec.ofInt_natCast, BitVec.toNat_ofNat]; exact Nat.mod_eq_of_lt (by omega)
  have h2 : (BitVec.ofInt 64 (y : Int)).toNat = y := by
    rw [BitVec.ofInt_natCast, BitVec.toNat_ofNat]; exact Nat.mod_eq_of_lt (by omega)
  refine ⟨(BitVec.ofInt 64 (x : Int) &&& ~~~ BitVec.ofInt 64 (y : Int)).toNat, ?_, ?_, fun j => ?_⟩
  · show IntKind.u64.wrap ((BitVec.ofInt 64 (x : Int) &&& ~~~ BitVec.ofInt 64 (y : Int)).toNat : Int) = _
    have := (BitVec.ofInt 64 (x : Int) &&& ~~~ BitVec.ofInt 64 (y : Int)).isLt
    simp only [Nat.reducePow] at this
    rw [wu64 (by omega) (by omega)]
  · have := (BitVec.ofInt 64 (x : Int) &&& ~~~ BitVec.ofInt 64 (y : Int)).isLt
    simpa using this
  · rw [BitVec.testBit_toNat, BitVec.getLsbD_and, BitVec.getLsbD_not, ← BitVec.testBit_toNat, ← BitVec.testBit_toNat, h1, h2, Int.toNat_natCast, Int.toNat_natCast]
    rcases Nat.lt_or_ge j 64 with hj | hj
    · simp [hj]
    · rw [Nat.testBit_lt_two_pow (Nat.lt_of_lt_of_le (by rw [pow64]; omega : x < 2 ^ 64) (Nat.pow_le_pow_right (by decide) hj))]; simp
theorem shl1 {b : Nat} (hb : b < 64) : shl .u64 1 (b : Int) = ((2 ^ b : Nat) : Int) := by
  unfold shl
  have := pow_lt64 hb
  rw [Int.toNat_natCast, show IntKind.u64.bits = 64 from rfl, Nat.min_eq_left (by omega), show (1 : Int) * 2 ^ b = ((2 ^ b : Nat) : Int) by rw [Int.one_mul]; simp, wu64 (Int.natCast_nonneg _) (Int.ofNat_lt.2 this)]
theorem set_word {x : Int} (h : 0 ≤ x ∧ x < 18446744073709551616) {b : Nat} (hb : b < 64) (on : Bool) :
    (if on = true then Go.bits .or .u64 (Go.bits .andNot .u64 x (shl .u64 1 (b : Int))) (shl .u64 1 (b : Int)) else Go.bits .andNot .u64 x (shl .u64 1 (b : Int))) = wset x b on := by
  have hp := pow_lt64 hb
  obtain ⟨n, e, hn, ht⟩ := andNot64 (a := x) (b := shl .u64 1 (b : Int)) h (by rw [shl1 hb]; exact ⟨Int.natCast_nonneg _, Int.ofNat_lt.2 hp⟩)
  rw [shl1 hb, Int.toNat_natCast] at ht
  rw [e, shl1 hb, or64 ⟨Int.natCast_nonneg _, Int.ofNat_lt.2 hn⟩ ⟨Int.natCast_nonneg _, Int.ofNat_lt.2 hp⟩, Int.toNat_natCast, Int.toNat_natCast]
  have hw := wset_U h hb on
  have key : (if on = true then n ||| 2 ^ b else n) = (wset x b on).toNat := by
    refine Nat.eq_of_testBit_eq fun j => ?_
    rw [testBit_wset]
    cases on with
    | true =>
      simp only [if_true]
      rw [Nat.testBit_or, ht, Nat.testBit_two_pow]
      by_cases hj : j = b
      · simp [hj]
      · have : ¬ b = j := fun h => hj h.symm
        simp [hj, this]
    | false =>
      simp only [Bool.false_eq_true, if_false]
      rw [ht, Nat.testBit_two_pow]
      by_cases hj : j = b
      · simp [hj]
      · have : ¬ b = j := fun h => hj h.symm
        simp [hj, this]
  cases on with
  | true => simp only [if_true] at key ⊢; omega
  | false => simp only [Bool.false_eq_true, if_false] at key ⊢; omega
/-- A row with a bit. -/
def setL (l : List Int) (i : Int) (on : Bool) : List Int := if 0 ≤ i ∧ i.toNat / 64 < l.length then l.set (i.toNat / 64) (wset (l.getD (i.toNat / 64) 0) (i.toNat % 64) on) else l
theorem setL_in (l : List Int) (n : Nat) (on : Bool) (h : n / 64 < l.length) : setL l (n : Int) on = l.set (n / 64) (wset (l.getD (n / 64) 0) (n % 64) on) := by
  unfold setL; rw [Int.toNat_natCast, if_pos ⟨by omega, h⟩]
theorem setL_out (l : List Int) (i : Int) (on : Bool) (h : ¬ (0 ≤ i ∧ i.toNat / 64 < l.length)) : setL l i on = l := by
  unfold setL; rw [if_neg h]
theorem setL_length (l : List Int) (i : Int) (on : Bool) : (setL l i on).length = l.length := by unfold setL; split <;> simp
theorem setL_U {l : List Int} (hu : U l) (i : Int) (on : Bool) : U (setL l i on) := by
  unfold setL; split
  · exact hu.set _ (wset_U (hu.getD _) (by omega) on)
  · exact hu
theorem testBit_setL {l : List Int} (hu : U l) (i : Nat) (on : Bool) (hi : i / 64 < l.length) (j : Nat) : (val (setL l (i : Int) on)).testBit j = if j = i then on else (val l).testBit j := by
  rw [testBit_val (setL_U hu _ _), testBit_val hu]
  unfold setL
  rw [Int.toNat_natCast, if_pos ⟨by omega, hi⟩, getD_set]
  by_cases hj : i / 64 = j / 64
  · rw [if_pos ⟨hj, hi⟩, testBit_wset, ← hj]
    by_cases h2 : j % 64 = i % 64
    · rw [if_pos h2, if_pos (by omega)]
    · rw [if_neg h2, if_neg (by omega)]
  · rw [if_neg (by omega), if_neg (by omega)]
theorem words_Set {l : List Int} (hu : U l) (hl : l.length ≤ 17592186044416) {i : Int} (h0 : -9223372036854775808 ≤ i) (h1 : i ≤ 9223372036854775807) (on : Bool) : Ev (fun q => words_Set.f q l i on) (setL l i on) := by
  unfold words_Set.f
  have ho := own hu (n := 0) hl (by omega)
  rw [show max l.length 0 - l.length = 0 by omega, List.replicate_zero, List.append_nil] at ho
  refine Ev.bind ho ?_
  have out : ∀ r, r = l → Ev (fun q => words_Set.j0 q i on l true) r := fun r hr => by
    subst hr
    refine Ev.step (f := fun _ => some r) (fun q => ?_) (Ev.now _)
    simp only [words_Set.j0, if_true]
  by_cases hi : i < 0
  · simp only [hi, if_true]
    exact out _ (setL_out _ _ _ (by omega))
  · simp only [hi, if_false]
    obtain ⟨n, rfl⟩ := Int.eq_ofNat_of_zero_le (show 0 ≤ i by omega)
    have e1 : wrap64 (Int.tdiv (n : Int) 64) = ((n / 64 : Nat) : Int) := by rw [Int.tdiv_eq_ediv_of_nonneg (by omega), w64 (by omega) (by omega)]; omega
    have e2 : Int.tmod (n : Int) 64 = ((n % 64 : Nat) : Int) := by rw [Int.tmod_eq_emod_of_nonneg (by omega)]; omega
    rw [e1]
    by_cases h : n / 64 < l.length
    · have hd : decide (((n / 64 : Nat) : Int) ≥ (l.length : Int)) = false := decide_eq_false (by omega)
      simp only [hd]
      refine Ev.step (f := fun _ => some (setL l (n : Int) on)) (fun q => ?_) (Ev.now _)
      simp only [words_Set.j0, Bool.false_eq_true, if_false]
      rw [e1, e2, if_pos (by omega), if_pos (by omega), if_pos (by omega)]
      simp only [Option.bind_some]
      have hw := set_word (hu.getD (n / 64)) (show n % 64 < 64 by omega) on
      rw [setL_in _ _ _ h, ← hw, Int.toNat_natCast]
      cases on with
      | true => simp only [if_true]; rw [rd_nat, rd_nat, getD_set, if_pos ⟨rfl, h⟩, List.set_set]
      | false => simp only [Bool.false_eq_true, if_false]; rw [rd_nat]
    · have hd : decide (((n / 64 : Nat) : Int) ≥ (l.length : Int)) = true := decide_eq_true (by omega)
      simp only [hd]
      exact out _ (setL_out _ _ _ (by omega))
theorem ref_Set {l : List Int} (hu : U l) (hl : l.length < 17592186044416) {i : Int} (h0 : -9223372036854775808 ≤ i) (h1 : i ≤ 9223372036854775807) (on : Bool) : bucketlineref01_Set.f l i on = some (setL l i on) := by
  unfold bucketlineref01_Set.f
  simp only [List.length_nil, Nat.zero_add, hl, if_true, List.nil_append, Option.bind_some]
  by_cases hi : i < 0
  · rw [if_pos hi, setL_out _ _ _ (by omega)]
  · rw [if_neg hi]
    obtain ⟨n, rfl⟩ := Int.eq_ofNat_of_zero_le (show 0 ≤ i by omega)
    have e1 : wrap64 (Int.tdiv (n : Int) 64) = ((n / 64 : Nat) : Int) := by rw [Int.tdiv_eq_ediv_of_nonneg (by omega), w64 (by omega) (by omega)]; omega
    have e2 : Int.tmod (n : Int) 64 = ((n % 64 : Nat) : Int) := by rw [Int.tmod_eq_emod_of_nonneg (by omega)]; omega
    rw [e1, e2]
    by_cases h : n / 64 < l.length
    · rw [if_neg (by omega), ref_Get hu h0 h1]
      simp only [Option.bind_some, getB, Int.toNat_natCast]
      rw [setL_in _ _ _ h, testBit_val hu]
      unfold wset
      simp only [show decide ((0 : Int) ≤ (n : Int)) = true from decide_eq_true (by omega), Bool.true_and]
      by_cases hb : (l.getD (n / 64) 0).toNat.testBit (n % 64) = on
      · rw [if_pos (by rw [hb]; simp), if_pos hb]
        congr 1
        refine ext_getD (by simp) fun j => ?_
        rw [getD_set]
        split
        · rename_i hh; rw [hh.1]
        · rfl
      · rw [if_neg (by simpa using hb), if_neg hb, wu64 (by omega) (by omega), if_pos (by omega), if_pos (by omega), if_pos (by omega), shl1 (by omega), rd_nat, xor64 (hu.getD _) ⟨Int.natCast_nonneg _, Int.ofNat_lt.2 (pow_lt64 (by omega))⟩, Int.toNat_natCast]
    · rw [if_pos (by omega), setL_out _ _ _ (by omega)]
/-! Unit -/
def unitL (k i : Int) : List Int := if sizeZ k = 0 ∨ i < 0 ∨ i ≥ k then [] else setL (List.replicate (sizeZ k).toNat 0) i true
theorem unitL_no {k i : Int} (h : sizeZ k = 0 ∨ i < 0 ∨ i ≥ k) : unitL k i = [] := by unfold unitL; rw [if_pos h]
theorem unitL_yes {k i : Int} (h : ¬ (sizeZ k = 0 ∨ i < 0 ∨ i ≥ k)) : unitL k i = setL (List.replicate (sizeZ k).toNat 0) i true := by unfold unitL; rw [if_neg h]
theorem unitL_U (k i : Int) : U (unitL k i) := by
  unfold unitL; split
  · exact U.nil
  · exact setL_U (U.replicate _) _ _
theorem unitL_len (k i : Int) : (unitL k i).length ≤ 2 := by
  have := sizeZ_nn k
  unfold unitL; split
  · simp
  · rw [setL_length]; simp; omega
theorem words_Unit {k i : Int} (h0 : -9223372036854775808 ≤ i) (h1 : i ≤ 9223372036854775807) : Ev (fun q => words_Unit.f q k i) (unitL k i) := by
  have hz := sizeZ_nn k
  unfold words_Unit.f
  rw [words_Size]
  simp only [Option.bind_some]
  have out : ∀ r, r = ([] : List Int) → Ev (fun q => words_Unit.j0 q k i true) r := fun r hr => by
    subst hr
    refine Ev.step (f := fun _ => some []) (fun q => ?_) (Ev.now _)
    simp only [words_Unit.j0, if_true]
  by_cases hs : sizeZ k = 0
  · rw [unitL_no (.inl hs)]; simp only [hs, if_true]; exact out _ rfl
  · by_cases hi : i < 0
    · simp only [hs, hi, if_true, if_false]; exact out _ (unitL_no (by omega))
    · simp only [hs, hi, if_false]
      by_cases hk : i ≥ k
      · have : decide (i ≥ k) = true := decide_eq_true hk
        simp only [this]; exact out _ (unitL_no (by omega))
      · have : decide (i ≥ k) = false := decide_eq_false hk
        simp only [this]
        rw [unitL_yes (by omega)]
        refine Ev.step (f := fun q => (words_Set.f q (List.replicate (sizeZ k).toNat 0) i true).bind fun t => some t) (fun q => ?_) (Ev.bind (words_Set (U.replicate _) (by simp; omega) h0 h1 true) (Ev.now _))
        simp only [words_Unit.j0, Bool.false_eq_true, if_false]
        rw [words_Size]
        simp only [Option.bind_some]
        rw [if_pos (by omega), if_pos (by omega)]
theorem ref_Unit {k i : Int} (h0 : -9223372036854775808 ≤ i) (h1 : i ≤ 9223372036854775807) : Ev (fun q => bucketlineref01_Unit.f q k i) (unitL k i) := by
  have hz := sizeZ_nn k
  unfold bucketlineref01_Unit.f
  refine Ev.bind (ref_Size k) ?_
  have out : ∀ r, r = ([] : List Int) → Ev (fun q => bucketlineref01_Unit.j0 q k i true) r := fun r hr => by
    subst hr
    refine Ev.step (f := fun _ => some []) (fun q => ?_) (Ev.now _)
    simp only [bucketlineref01_Unit.j0, if_true]
  by_cases hs : sizeZ k = 0
  · rw [unitL_no (.inl hs)]; simp only [hs, if_true]; exact out _ rfl
  · by_cases hi : i < 0
    · simp only [hs, hi, if_true, if_false]; exact out _ (unitL_no (by omega))
    · simp only [hs, hi, if_false]
      by_cases hk : i ≥ k
      · have : decide (i ≥ k) = true := decide_eq_true hk
        simp only [this]; exact out _ (unitL_no (by omega))
      · have : decide (i ≥ k) = false := decide_eq_false hk
        simp only [this]
        rw [unitL_yes (by omega)]
        have hset := ref_Set (U.replicate (sizeZ k).toNat) (by simp; omega) h0 h1 true
        refine Ev.step (f := fun q => (bucketlineref01_Size.f q k).bind fun t => if 0 ≤ t then (if t.toNat ≤ 35184372088832 then ((bucketlineref01_Set.f (List.replicate t.toNat 0) i true).bind fun t => some t) else none) else none) (fun q => ?_) (Ev.bind (ref_Size k) ?_)
        · simp only [bucketlineref01_Unit.j0, Bool.false_eq_true, if_false]
        · rw [hset]
          have a1 : (0 : Int) ≤ sizeZ k := hz.1
          have a2 : (sizeZ k).toNat ≤ 35184372088832 := by omega
          simp only [a1, a2, if_true, Option.bind_some]
          exact Ev.now _
end Go.Proofs.YtkailkcfhkooeaaDoor.S
