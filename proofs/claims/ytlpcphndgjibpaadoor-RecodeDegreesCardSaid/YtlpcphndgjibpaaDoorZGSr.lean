/- What the printed functions words.Size, words.Valid and the reference's Size, Get, Valid, Xor, Count, Same, Words come to. -/
import Derived.Test.YtlpcphndgjibpaaDoorZGM2
import Derived.Test.YtlpcphndgjibpaaDoorZGF
namespace Go.Proofs.YtlpcphndgjibpaaDoor.S
open Go.RowKit Go.Proofs.YtlpcphndgjibpaaDoor.P Go.Proofs.YtlpcphndgjibpaaDoorW.PrintWords Go.Proofs.YtlpcphndgjibpaaDoorW.PrintLast Go.Proofs.YtlpcphndgjibpaaDoorW.PrintMore Go.Proofs.YtlpcphndgjibpaaDoor.M
set_option linter.unusedVariables false
set_option linter.unusedSimpArgs false
/-- How many words blocks have. -/
def sizeZ (k : Int) : Int := if 1 ≤ k ∧ k ≤ 128 then (k + 63) / 64 else 0
/-- Is a bit set? -/
def getB (l : List Int) (i : Int) : Bool := decide (0 ≤ i) && (val l).testBit i.toNat
theorem and1 {y : Nat} (h : y < 18446744073709551616) : Go.bits .and .u64 (y : Int) 1 = ((y &&& 1 : Nat) : Int) := by
  have := and64 (a := (y : Int)) (b := 1) ⟨by omega, by omega⟩ (by decide)
  rwa [Int.toNat_natCast] at this
/-- Is a row one of so many blocks? -/
def validB (k : Int) (l : List Int) : Bool := decide (1 ≤ k ∧ k ≤ 128 ∧ (l.length : Int) = (k + 63) / 64 ∧ val l < 2 ^ k.toNat)
theorem ref_Xor_loop {a b : List Int} (ha : U a) (hb : U b) (hl : b.length ≤ a.length) (ha2 : a.length < 17592186044416) (d : Nat) : ∀ (i : Nat), i + d = b.length → Ev (fun q => bucketlineref01_Xor.l0 q b (xorL (b.take i) a) (i : Int)) (xorL b a) := by
  induction d with
  | zero =>
    intro i hi
    refine Ev.step (f := fun _ => some (xorL b a)) (fun q => ?_) (Ev.now _)
    simp only [bucketlineref01_Xor.l0]
    rw [if_neg (by omega), List.take_of_length_le (by omega)]
  | succ d ih =>
    intro i hi
    refine Ev.step (fun q => ?_) (ih (i + 1) (by omega))
    simp only [bucketlineref01_Xor.l0]
    have hlen : (xorL (b.take i) a).length = a.length := by rw [xorL_length]; simp; omega
    rw [if_pos (by omega), if_pos (by omega), if_pos (by rw [hlen]; omega), rd_nat, rd_nat, xor64 ((U_xorL (hb.take i) ha).getD i) (hb.getD i), Int.toNat_natCast, xor_round ha hb hl (by omega), w64 (by omega) (by omega)]
    norm_cast
theorem ref_Xor_loop' {a b : List Int} (ha : U a) (hb : U b) (hl : b.length ≤ a.length) (ha2 : a.length < 17592186044416) (d : Nat) : ∀ (i : Nat), i + d = b.length → Ev (fun q => bucketlineref01_Xor.l100 q b (xorL (b.take i) a) (i : Int)) (xorL b a) := by
  induction d with
  | zero =>
    intro i hi
    refine Ev.step (f := fun _ => some (xorL b a)) (fun q => ?_) (Ev.now _)
    simp only [bucketlineref01_Xor.l100]
    rw [if_neg (by omega), List.take_of_length_le (by omega)]
  | succ d ih =>
    intro i hi
    refine Ev.step (fun q => ?_) (ih (i + 1) (by omega))
    simp only [bucketlineref01_Xor.l100]
    have hlen : (xorL (b.take i) a).length = a.length := by rw [xorL_length]; simp; omega
    rw [if_pos (by omega), if_pos (by omega), if_pos (by rw [hlen]; omega), rd_nat, rd_nat, xor64 ((U_xorL (hb.take i) ha).getD i) (hb.getD i), Int.toNat_natCast, xor_round ha hb hl (by omega), w64 (by omega) (by omega)]
    norm_cast
theorem ref_Xor {a b : List Int} (ha : U a) (hb : U b) (h1 : a.length < 17592186044416) (h2 : b.length < 17592186044416) : Ev (fun q => bucketlineref01_Xor.f q a b) (xorL a b) := by
  unfold bucketlineref01_Xor.f
  by_cases h : (a.length : Int) < (b.length : Int)
  · simp only [h, if_true, List.length_nil, Nat.zero_add, h2, List.nil_append]
    have := ref_Xor_loop hb ha (by omega) h2 a.length 0 (by omega)
    simpa [xorL] using this
  · simp only [h, if_false, List.length_nil, Nat.zero_add, h1, if_true, List.nil_append]
    have := ref_Xor_loop' ha hb (by omega) h1 b.length 0 (by omega)
    rw [xorL_comm b a] at this
    simpa [xorL] using this
/-! how many bits -/
theorem ref_Count_word {l : List Int} {i : Int} {r : Int} (x : Nat) : ∀ (n : Nat), n + cnt x ≤ 4611686018427387904 → x < 18446744073709551616 → Ev (fun q => bucketlineref01_Count.l0 q l ((n + cnt x : Nat) : Int) (wrap64 (i + 1))) r → Ev (fun q => bucketlineref01_Count.l1 q l (n : Int) i (x : Int)) r := by
  induction x using Nat.strongRecOn with
  | _ x ih =>
    intro n hn hx h
    by_cases h0 : x = 0
    · subst h0
      refine Ev.step (fun q => ?_) h
      simp only [bucketlineref01_Count.l1]
      rw [if_neg (by omega), cnt_zero, Nat.add_zero]
    · have hc := cnt_step x
      have := ih (x / 2) (by omega) (n + x % 2) (by omega) (by omega) (by rw [show n + x % 2 + cnt (x / 2) = n + cnt x by omega]; exact h)
      refine Ev.step (fun q => ?_) this
      simp only [bucketlineref01_Count.l1]
      rw [if_pos (by omega), and1 hx, Nat.and_one_is_mod, w64 (x := ((x % 2 : Nat) : Int)) (by omega) (by omega), w64 (by omega) (by omega)]
      norm_cast
theorem ref_Count_loop {l : List Int} (hu : U l) (hl : l.length < 17592186044416) (d : Nat) : ∀ (i n : Nat), i + d = l.length → n ≤ 64 * i → Ev (fun q => bucketlineref01_Count.l0 q l (n : Int) (i : Int)) ((n + cnt (val (l.drop i)) : Nat) : Int) := by
  induction d with
  | zero =>
    intro i n hi hn
    refine Ev.step (f := fun _ => some ((n + cnt (val (l.drop i)) : Nat) : Int)) (fun q => ?_) (Ev.now _)
    simp only [bucketlineref01_Count.l0]
    rw [if_neg (by omega), List.drop_of_length_le (by omega)]
    simp [val, cnt_zero]
  | succ d ih =>
    intro i n hi hn
    have hx := hu.getD i
    obtain ⟨x, hxe⟩ := Int.eq_ofNat_of_zero_le hx.1
    rw [hxe] at hx
    have hc : cnt x ≤ 64 := cnt_le 64 x (by rw [pow64]; omega)
    have e : cnt (val (l.drop i)) = cnt x + cnt (val (l.drop (i + 1))) := by
      rw [val_drop (by omega), hxe, Int.toNat_natCast, cnt_cons _ _ (by omega)]
    have h := ih (i + 1) (n + cnt x) (by omega) (by omega)
    rw [show n + cnt (val (l.drop i)) = n + cnt x + cnt (val (l.drop (i + 1))) by omega]
    refine Ev.step (fun q => ?_) (ref_Count_word (l := l) (i := (i : Int)) x n (by omega) (by omega) (by rw [w64 (by omega) (by omega)]; exact_mod_cast h))
    simp only [bucketlineref01_Count.l0]
    rw [if_pos (by omega), if_pos (by omega), rd_nat, hxe]
theorem ref_Count {l : List Int} (hu : U l) (hl : l.length < 17592186044416) : Ev (fun q => bucketlineref01_Count.f q l) (cnt (val l) : Int) := by
  have := ref_Count_loop hu hl l.length 0 0 (by omega) (by omega)
  simpa [bucketlineref01_Count.f] using this
end Go.Proofs.YtlpcphndgjibpaaDoor.S
