/- The plain statement of WordsUnits. -/
import Derived.Test.YtkailkcfhkooeaaDoorSwa
import Derived.Test.YtkailkcfhkooeaaDoorP7
namespace Go.Proofs.YtkailkcfhkooeaaDoor.Pure
open Go.RowKit Go.Proofs.YtkailkcfhkooeaaDoor.P Go.Proofs.YtkailkcfhkooeaaDoorW.PrintWords Go.Proofs.YtkailkcfhkooeaaDoorW.PrintLast Go.Proofs.YtkailkcfhkooeaaDoorW.PrintMore Go.Proofs.YtkailkcfhkooeaaDoor.M
open Go.Proofs.YtkailkcfhkooeaaDoor.S
set_option linter.unusedVariables false
theorem val_unit {k i : Nat} (hk : 1 ≤ k) (hk2 : k ≤ 128) (hi : i < k) : val (unitL k i) = 2 ^ i := by
  have hs : sizeZ (k : Int) = (((k + 63) / 64 : Nat) : Int) := by unfold sizeZ; rw [if_pos (by omega)]; omega
  rw [unitL_yes (by omega)]
  refine Nat.eq_of_testBit_eq fun j => ?_
  rw [testBit_setL (U.replicate _) _ _ (by rw [List.length_replicate]; omega), val_replicate, Nat.zero_testBit, Nat.testBit_two_pow]
  by_cases h : j = i
  · simp [h]
  · have : ¬ i = j := fun h' => h h'.symm
    simp [h, this]
theorem unit_valid {k i : Nat} (hk : 1 ≤ k) (hk2 : k ≤ 128) (hi : i < k) : validB k (unitL k i) = true := by
  have hs : sizeZ (k : Int) = (((k + 63) / 64 : Nat) : Int) := by unfold sizeZ; rw [if_pos (by omega)]; omega
  unfold validB
  rw [decide_eq_true_eq]
  refine ⟨by omega, by omega, ?_, ?_⟩
  · rw [unitL_yes (by omega), setL_length, List.length_replicate]; omega
  · rw [val_unit hk hk2 hi, Int.toNat_natCast]; exact Nat.pow_lt_pow_right (by decide) hi
theorem cnt_two_pow (i : Nat) : cnt (2 ^ i) = 1 := by
  have := cnt_split i 0 1 (Nat.two_pow_pos i)
  rw [Nat.zero_add, Nat.mul_one, cnt_zero, Nat.zero_add] at this
  rw [this]; rw [cnt_step]; simp [cnt_zero]
theorem mod_step (n i : Nat) : n % 2 ^ (i + 1) = if n.testBit i = true then n % 2 ^ i ^^^ 2 ^ i else n % 2 ^ i := by
  refine Nat.eq_of_testBit_eq fun j => ?_
  rw [Nat.testBit_mod_two_pow]
  split
  · rename_i h
    rw [Nat.testBit_xor, Nat.testBit_mod_two_pow, Nat.testBit_two_pow]
    by_cases hj : j = i
    · subst hj; simp [h]
    · have h1 : ¬ i = j := fun h' => hj h'.symm
      have h2 : decide (j < i + 1) = decide (j < i) := by rw [decide_eq_decide]; omega
      simp [h1, h2]
  · rename_i h
    rw [Nat.testBit_mod_two_pow]
    by_cases hj : j = i
    · subst hj; simp at h; simp [h]
    · have h2 : decide (j < i + 1) = decide (j < i) := by rw [decide_eq_decide]; omega
      simp [h2]
theorem units_loop {v : List Int} (hu : U v) {k : Nat} (hk : 1 ≤ k) (hk2 : k ≤ 128) (hv : val v < 2 ^ k) (hl : v.length ≤ 2) (d : Nat) : ∀ (i : Nat) (x : List Int), i + d = k → U x → x.length ≤ 2 → val x = val v % 2 ^ i → Ev (fun q => bucketlinelaw01_WordsUnits.l0 q (k : Int) v x (i : Int)) true := by
  induction d with
  | zero =>
    intro i x hi hx hxl hxv
    refine Ev.step (f := fun q => (words_Same.f q x v).bind fun t => if t = true then (bucketlinelaw01_awake.f q).bind (fun t => some t) else some false) (fun q => ?_) (Ev.bind (Same hx hu (by omega) (by omega)) ?_)
    · simp only [bucketlinelaw01_WordsUnits.l0]
      rw [if_neg (by omega)]
    · have : val x = val v := by rw [hxv, show i = k by omega, Nat.mod_eq_of_lt hv]
      simp only [this, decide_true, if_true]
      exact awake01'
  | succ d ih =>
    intro i x hi hx hxl hxv
    have hul := unitL_len (k : Int) (i : Int)
    have hU := unitL_U (k : Int) (i : Int)
    have hval := val_unit hk hk2 (i := i) (by omega)
    have hvalid := unit_valid hk hk2 (i := i) (by omega)
    have hr : ∀ x', U x' → x'.length ≤ 2 → val x' = val v % 2 ^ (i + 1) → Ev (fun q => bucketlinelaw01_WordsUnits.l0 q (k : Int) v x' (wrap64 ((i : Int) + 1))) true := fun x' a b c => by
      have := ih (i + 1) x' (by omega) a b c
      rw [w64 (by omega) (by omega), show (i : Int) + 1 = ((i + 1 : Nat) : Int) by omega]
      exact this
    have hj : Ev (fun q => bucketlinelaw01_WordsUnits.j1 q (k : Int) v x (i : Int) (unitL k i) false) true := by
      have hg := words_Get hu (i := (i : Int)) (by omega) (by omega)
      unfold getB at hg
      rw [Int.toNat_natCast] at hg
      have hm := mod_step (val v) i
      by_cases hb : (val v).testBit i = true
      · rw [if_pos hb] at hm
        have hlx := xorL_length x (unitL (k : Int) (i : Int))
        refine Ev.step (f := fun q => (words_Xor.f q x (unitL k i)).bind fun t => bucketlinelaw01_WordsUnits.l0 q (k : Int) v t (wrap64 ((i : Int) + 1))) (fun q => ?_) (Ev.bind (Xor hx hU (by omega) (by omega)) (hr _ (U_xorL hx hU) (by omega) (by rw [val_xorL hx hU, hxv, hval, hm])))
        simp only [bucketlinelaw01_WordsUnits.j1, Bool.false_eq_true, if_false]
        rw [hg, hb]
        simp
      · rw [if_neg hb] at hm
        refine Ev.step (fun q => ?_) (hr x hx hxl (by rw [hxv, hm]))
        simp only [bucketlinelaw01_WordsUnits.j1, Bool.false_eq_true, if_false]
        rw [hg]
        simp only [Bool.not_eq_true] at hb
        rw [hb]
        simp
    refine Ev.step (f := fun q => (words_Unit.f q (k : Int) (i : Int)).bind fun t => (words_Valid.f (k : Int) t).bind fun b => if b = true then (words_Count.f q t).bind (fun c => bucketlinelaw01_WordsUnits.j1 q (k : Int) v x (i : Int) t (c != 1)) else bucketlinelaw01_WordsUnits.j1 q (k : Int) v x (i : Int) t true) (fun q => ?_) (Ev.bind (words_Unit (by omega) (by omega)) ?_)
    · simp only [bucketlinelaw01_WordsUnits.l0]
      rw [if_pos (by omega)]
    · rw [words_Valid hU, hvalid]
      simp only [Option.bind_some, if_true]
      refine Ev.bind (Count hU (by omega)) ?_
      rw [hval, cnt_two_pow]
      exact hj
theorem WordsUnits : bucketlinelaw01_WordsUnits.Pure := by
  intro k v _ _ _ hv
  have hu := U_of_wf hv
  refine Ev.rounds (g := fun q => bucketlinelaw01_WordsUnits.f q k v) ?_
  unfold bucketlinelaw01_WordsUnits.f
  refine Ev.bind (ref_Valid hu k) ?_
  by_cases h : validB k v = true
  · simp only [h, if_true]
    unfold validB at h
    rw [decide_eq_true_eq] at h
    obtain ⟨h1, h2, h3, h4⟩ := h
    obtain ⟨k, rfl⟩ := Int.eq_ofNat_of_zero_le (show 0 ≤ k by omega)
    exact units_loop hu (by omega) (by omega) (by simpa using h4) (by omega) k 0 [] (by omega) U.nil (by simp) (by simp [val, Nat.mod_one])
  · simp only [h, if_false]; exact awake01'
end Go.Proofs.YtkailkcfhkooeaaDoor.Pure
