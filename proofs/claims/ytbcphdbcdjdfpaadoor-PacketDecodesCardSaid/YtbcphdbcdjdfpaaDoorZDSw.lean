/- What the printed functions of words and the rest of its reference come to. -/
import Derived.Test.YtbcphdbcdjdfpaaDoorZDSr
import Derived.Test.YtbcphdbcdjdfpaaDoorZDP2
import Derived.Test.YtbcphdbcdjdfpaaDoorZDP12
import Derived.Test.YtbcphdbcdjdfpaaDoorZDP13
namespace Go.Proofs.YtbcphdbcdjdfpaaDoor.S
open Go.RowKit Go.Proofs.YtbcphdbcdjdfpaaDoor.P Go.Proofs.YtbcphdbcdjdfpaaDoorW.PrintWords Go.Proofs.YtbcphdbcdjdfpaaDoorW.PrintLast Go.Proofs.YtbcphdbcdjdfpaaDoorW.PrintMore Go.Proofs.YtbcphdbcdjdfpaaDoor.M
theorem mx_len (n m : Nat) : mx (n : Int) (m : Int) = ((max n m : Nat) : Int) := by unfold mx; split <;> omega
theorem own_loop {l : List Int} (hu : U l) {N : Nat} (hN : l.length ≤ N) (hN2 : N ≤ 17592186044416) (d : Nat) : ∀ i : Nat, i + d = l.length → Ev (fun q => words_own.l0 q (xorL (l.take i) (List.replicate N 0)) l (l.length : Int) (i : Int)) (xorL l (List.replicate N 0)) := by
  induction d with
  | zero =>
    intro i hi
    refine Ev.step (f := fun _ => some (xorL l (List.replicate N 0))) (fun q => ?_) (Ev.now _)
    simp only [words_own.l0]
    rw [if_neg (by omega), List.take_of_length_le (by omega)]
  | succ d ih =>
    intro i hi
    have hlen : (xorL (l.take i) (List.replicate N 0)).length = N := by rw [xorL_length]; simp; omega
    have hr := xor_round (U.replicate N) hu (by simpa using hN) (i := i) (by omega)
    have e : ((((xorL (l.take i) (List.replicate N 0)).getD i 0).toNat ^^^ (l.getD i 0).toNat : Nat) : Int) = rd l (i : Int) := by
      have := hu.getD i
      rw [getD_xorL (hu.take i) (U.replicate N), getD_take, if_neg (by omega), rd_nat]
      have h0 : (List.replicate N (0 : Int)).getD i 0 = 0 := by
        rw [List.getD_eq_getElem?_getD, List.getElem?_replicate]; split <;> rfl
      rw [h0]
      simp only [Int.toNat_zero, Nat.xor_self, Int.toNat_natCast, Nat.zero_xor]
      omega
    rw [e] at hr
    have h := ih (i + 1) (by omega)
    rw [← hr] at h
    refine Ev.step (fun q => ?_) h
    simp only [words_own.l0]
    rw [if_pos (by omega), if_pos (by omega), if_pos (by omega), if_pos (by rw [hlen]; omega), w64 (by omega) (by omega), Int.toNat_natCast, show (i : Int) + 1 = ((i + 1 : Nat) : Int) by omega]
theorem xorL_zeros {l : List Int} (hu : U l) {N : Nat} (hN : l.length ≤ N) : xorL l (List.replicate N 0) = l ++ List.replicate (N - l.length) 0 := by
  refine ext_getD ?_ fun i => ?_
  · rw [xorL_length]; simp; omega
  · rw [getD_xorL hu (U.replicate N), getD_append_zeros]
    have h0 : (List.replicate N (0 : Int)).getD i 0 = 0 := by
      rw [List.getD_eq_getElem?_getD, List.getElem?_replicate]; split <;> rfl
    have := hu.getD i
    rw [h0]
    simp only [Int.toNat_zero, Nat.xor_zero]
    omega
theorem own {l : List Int} (hu : U l) {n : Nat} (h1 : l.length ≤ 17592186044416) (h2 : n ≤ 17592186044416) : Ev (fun q => words_own.f q l (n : Int)) (l ++ List.replicate (max l.length n - l.length) 0) := by
  unfold words_own.f
  rw [mx_len]
  have a1 : (0 : Int) ≤ ((max l.length n : Nat) : Int) := by omega
  have a2 : (((max l.length n : Nat) : Int)).toNat ≤ 35184372088832 := by omega
  simp only [a1, a2, if_true]
  have := own_loop hu (N := max l.length n) (by omega) (by omega) l.length 0 (by omega)
  rw [xorL_zeros hu (by omega)] at this
  simpa [xorL] using this
theorem Xor_loop {a b : List Int} (ha : U a) (hb : U b) (hl : b.length ≤ a.length) (ha2 : a.length ≤ 17592186044416) (d : Nat) : ∀ i : Nat, i + d = b.length → Ev (fun q => words_Xor.l0 q (xorL (b.take i) a) b (b.length : Int) (i : Int)) (xorL b a) := by
  induction d with
  | zero =>
    intro i hi
    refine Ev.step (f := fun _ => some (xorL b a)) (fun q => ?_) (Ev.now _)
    simp only [words_Xor.l0]
    rw [if_neg (by omega), List.take_of_length_le (by omega)]
  | succ d ih =>
    intro i hi
    have hlen : (xorL (b.take i) a).length = a.length := by rw [xorL_length]; simp; omega
    refine Ev.step (fun q => ?_) (ih (i + 1) (by omega))
    simp only [words_Xor.l0]
    rw [if_pos (by omega), if_pos (by omega), if_pos (by omega), if_pos (by rw [hlen]; omega), rd_nat, rd_nat, xor64 ((U_xorL (hb.take i) ha).getD i) (hb.getD i), Int.toNat_natCast, xor_round ha hb hl (by omega), w64 (by omega) (by omega), show (i : Int) + 1 = ((i + 1 : Nat) : Int) by omega]
theorem Xor {a b : List Int} (ha : U a) (hb : U b) (h1 : a.length ≤ 17592186044416) (h2 : b.length ≤ 17592186044416) : Ev (fun q => words_Xor.f q a b) (xorL a b) := by
  unfold words_Xor.f
  refine Ev.bind (own ha h1 h2) ?_
  have := Xor_loop (ha.append (U.replicate (max a.length b.length - a.length))) hb (by simp; omega) (by simp; omega) b.length 0 (by omega)
  rw [xorL_append_zeros ha hb (by omega)] at this
  simpa [xorL] using this
/-! Count -/
theorem First_loop {l : List Int} (hu : U l) (hl : l.length ≤ 17592186044416) (d : Nat) : ∀ (i : Nat), i + d = l.length → Ev (fun q => words_First.l0 q l (l.length : Int) (i : Int)) (if val (l.drop i) = 0 then -1 else ((64 * i + low (val (l.drop i)) : Nat) : Int)) := by
  induction d with
  | zero =>
    intro i hi
    refine Ev.step (f := fun _ => some (-1)) (fun q => ?_) (by rw [List.drop_of_length_le (by omega), val, if_pos rfl]; exact Ev.now _)
    simp only [words_First.l0]
    rw [if_neg (by omega)]
  | succ d ih =>
    intro i hi
    have hx := hu.getD i
    obtain ⟨x, hxe⟩ := Int.eq_ofNat_of_zero_le hx.1
    rw [hxe] at hx
    have hv := val_drop (l := l) (i := i) (by omega)
    rw [hxe, Int.toNat_natCast] at hv
    by_cases h0 : x = 0
    · have h := ih (i + 1) (by omega)
      rw [h0, Nat.zero_add] at hv
      have e : (if val (l.drop i) = 0 then (-1 : Int) else ((64 * i + low (val (l.drop i)) : Nat) : Int)) = (if val (l.drop (i + 1)) = 0 then -1 else ((64 * (i + 1) + low (val (l.drop (i + 1))) : Nat) : Int)) := by
        by_cases hz : val (l.drop (i + 1)) = 0
        · rw [hv, hz]; simp
        · rw [if_neg hz, if_neg (by omega), hv, low_mul _ hz]; congr 1; omega
      rw [e]
      refine Ev.step (fun q => ?_) h
      simp only [words_First.l0]
      rw [if_pos (by omega), if_pos (by omega), if_pos (by omega), rd_nat, hxe, if_pos (by omega), w64 (by omega) (by omega), show (i : Int) + 1 = ((i + 1 : Nat) : Int) by omega]
    · have hlw : low x < 64 := by
        have := (low_spec h0).1
        rcases Nat.lt_or_ge (low x) 64 with h | h
        · exact h
        · rw [Nat.testBit_lt_two_pow (Nat.lt_of_lt_of_le (by rw [pow64]; omega : x < 2 ^ 64) (Nat.pow_le_pow_right (by decide) h))] at this
          cases this
      rw [hv, if_neg (by omega), low_add _ _ h0 (by omega)]
      refine Ev.step (f := fun _ => some ((64 * i + low x : Nat) : Int)) (fun q => ?_) (Ev.now _)
      simp only [words_First.l0]
      rw [if_pos (by omega), if_pos (by omega), if_pos (by omega), rd_nat, hxe, if_neg (by omega)]
      unfold bits_TrailingZeros64.f
      rw [if_pos (by omega), if_pos (by omega), Int.toNat_natCast, ctz_low x h0 (by omega)]
      simp only [Option.bind_some]
      rw [w64 (x := 64 * (i : Int)) (by omega) (by omega), w64 (by omega) (by omega)]
      congr 1
theorem First {l : List Int} (hu : U l) (hl : l.length ≤ 17592186044416) : Ev (fun q => words_First.f q l) (firstZ (val l)) := by
  have := First_loop hu hl l.length 0 (by omega)
  unfold firstZ
  simpa [words_First.f] using this
theorem Same {a b : List Int} (ha : U a) (hb : U b) (h1 : a.length ≤ 17592186044416) (h2 : b.length ≤ 17592186044416) : Ev (fun q => words_Same.f q a b) (decide (val a = val b)) := by
  unfold words_Same.f
  refine Ev.bind (Xor ha hb h1 h2) ?_
  have hl : (xorL a b).length ≤ 17592186044416 := by rw [xorL_length]; omega
  refine Ev.bind (First (U_xorL ha hb) hl) ?_
  have e : decide (firstZ (val (xorL a b)) < 0) = decide (val a = val b) := by
    rw [decide_eq_decide, firstZ_neg, val_xorL ha hb, xor_eq_zero]
  rw [e]
  exact Ev.now _
/-- A word with a bit. -/
def wset (x : Int) (b : Nat) (on : Bool) : Int := if x.toNat.testBit b = on then x else ((x.toNat ^^^ 2 ^ b : Nat) : Int)
/-- A row with a bit. -/
def setL (l : List Int) (i : Int) (on : Bool) : List Int := if 0 ≤ i ∧ i.toNat / 64 < l.length then l.set (i.toNat / 64) (wset (l.getD (i.toNat / 64) 0) (i.toNat % 64) on) else l
def unitL (k i : Int) : List Int := if sizeZ k = 0 ∨ i < 0 ∨ i ≥ k then [] else setL (List.replicate (sizeZ k).toNat 0) i true
end Go.Proofs.YtbcphdbcdjdfpaaDoor.S
