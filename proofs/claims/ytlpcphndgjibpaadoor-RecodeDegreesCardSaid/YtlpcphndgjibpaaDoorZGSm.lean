/- What the printed functions of recode and of its reference come to: places picked, their xor, its degree. -/
import Derived.Test.YtlpcphndgjibpaaDoorZGSx
import Derived.Test.YtlpcphndgjibpaaDoorZGF
namespace Go.Proofs.YtlpcphndgjibpaaDoor.S
open Go.RowKit Go.Proofs.YtlpcphndgjibpaaDoor.P Go.Proofs.YtlpcphndgjibpaaDoorW.PrintWords Go.Proofs.YtlpcphndgjibpaaDoorW.PrintLast Go.Proofs.YtlpcphndgjibpaaDoorW.PrintMore Go.Proofs.YtlpcphndgjibpaaDoor.M
set_option linter.unusedVariables false
set_option linter.unusedSimpArgs false
def pickR (rows : List SR) : List Int → List SR
  | [] => []
  | i :: t => if 0 ≤ i ∧ i < rows.length then rows.getD i.toNat z36 :: pickR rows t else pickR rows t
theorem getD_mem {α : Type} (z : α) {l : List α} {i : Nat} (h : i < l.length) : l.getD i z ∈ l := by
  rw [List.getD_eq_getElem?_getD, List.getElem?_eq_getElem h]; exact List.getElem_mem h
theorem pickR_good {rows : List SR} (hg : ∀ r ∈ rows, GoodR r) : ∀ w : List Int, ∀ r ∈ pickR rows w, GoodR r
  | [], r, h => by cases h
  | i :: t, r, h => by
    rw [pickR] at h
    split at h
    · rename_i hi
      rcases List.mem_cons.1 h with rfl | h
      · exact hg _ (getD_mem _ (by omega))
      · exact pickR_good hg t r h
    · exact pickR_good hg t r h
theorem mix_loop {rows : List SR} {w : List Int} (hg : ∀ r ∈ rows, GoodR r) (hr : rows.length ≤ 1000000) (hw : w.length ≤ 1000) (d : Nat) : ∀ (i : Nat) (acc : List SR), i + d = w.length → (∀ r ∈ acc, GoodR r) → acc.length ≤ i → Ev (fun q => recode_mix.l0 q rows acc w (w.length : Int) (i : Int)) (rowV (acc ++ pickR rows (w.drop i)) [], strOfNums (rowD (acc ++ pickR rows (w.drop i)) [])) := by
  induction d with
  | zero =>
    intro i acc hi ha hal
    rw [List.drop_of_length_le (by omega), pickR, List.append_nil]
    refine Ev.step (f := fun q => (xor_Row.f q acc).bind fun t => some (t.1, t.2)) (fun q => ?_) (Ev.bind (Row ha (by omega)) (Ev.now _))
    simp only [recode_mix.l0]
    rw [if_neg (by omega)]
  | succ d ih =>
    intro i acc hi ha hal
    have hlt : i < w.length := by omega
    rw [drop_cons hlt, pickR]
    have hsucc : (i : Int) + 1 = ((i + 1 : Nat) : Int) := by omega
    have step : ∀ acc2 : List SR, (recode_mix.l0 · rows acc2 w (w.length : Int) (wrap64 ((i : Int) + 1))) = (recode_mix.l0 · rows acc2 w (w.length : Int) ((i + 1 : Nat) : Int)) := fun acc2 => by rw [w64 (by omega) (by omega), hsucc]
    by_cases h : 0 ≤ w.getD i 0 ∧ w.getD i 0 < rows.length
    · rw [if_pos h]
      have h3 := ih (i + 1) (acc ++ [rows.getD (w.getD i 0).toNat z36]) (by omega) (fun r hr => by
        rcases List.mem_append.1 hr with hr | hr
        · exact ha r hr
        · rw [List.mem_singleton] at hr; subst hr; exact hg _ (getD_mem _ (by omega))) (by simp; omega)
      rw [List.append_assoc, List.singleton_append] at h3
      refine Ev.step (fun q => ?_) h3
      simp only [recode_mix.l0]
      rw [if_pos (by omega), if_pos (by omega), if_pos (by omega), rd_nat, if_pos h.1, if_pos h.2, if_pos h.1, if_pos (by omega)]
      exact congrFun (step _) q
    · rw [if_neg h]
      refine Ev.step (fun q => ?_) (ih (i + 1) acc (by omega) ha (by omega))
      simp only [recode_mix.l0]
      rw [if_pos (by omega), if_pos (by omega), if_pos (by omega), rd_nat]
      by_cases h1 : w.getD i 0 ≥ 0
      · rw [if_pos h1, if_neg (fun h2 => h ⟨h1, h2⟩)]
        exact congrFun (step _) q
      · rw [if_neg h1]
        exact congrFun (step _) q
theorem mix {rows : List SR} {w : List Int} (hg : ∀ r ∈ rows, GoodR r) (hr : rows.length ≤ 1000000) (hw : w.length ≤ 1000) : Ev (fun q => recode_mix.f q rows w) (rowV (pickR rows w) [], strOfNums (rowD (pickR rows w) [])) := by
  have := mix_loop hg hr hw w.length 0 [] (by omega) (fun _ h => by cases h) (by simp)
  exact this
theorem sum_loop {rows : List SR} {w : List Int} (hg : ∀ r ∈ rows, GoodR r) (hr : rows.length ≤ 1000000) (hw : w.length ≤ 1000) (d : Nat) : ∀ (i : Nat) (acc : List SR), i + d = w.length → (∀ r ∈ acc, GoodR r) → acc.length ≤ i → Ev (fun q => bucketlineref18_sum.l0 q rows w acc (i : Int)) (rowV (acc ++ pickR rows (w.drop i)) [], strOfNums (rowD (acc ++ pickR rows (w.drop i)) [])) := by
  induction d with
  | zero =>
    intro i acc hi ha hal
    rw [List.drop_of_length_le (by omega), pickR, List.append_nil]
    refine Ev.step (f := fun q => (bucketlineref02_Row.f q acc).bind fun t => some (t.1, t.2)) (fun q => ?_) (Ev.bind (rRow ha (by omega)) (Ev.now _))
    simp only [bucketlineref18_sum.l0]
    rw [if_neg (by omega)]
  | succ d ih =>
    intro i acc hi ha hal
    have hlt : i < w.length := by omega
    rw [drop_cons hlt, pickR]
    have hsucc : (i : Int) + 1 = ((i + 1 : Nat) : Int) := by omega
    have step : ∀ acc2 : List SR, (bucketlineref18_sum.l0 · rows w acc2 (wrap64 ((i : Int) + 1))) = (bucketlineref18_sum.l0 · rows w acc2 ((i + 1 : Nat) : Int)) := fun acc2 => by rw [w64 (by omega) (by omega), hsucc]
    by_cases h : 0 ≤ w.getD i 0 ∧ w.getD i 0 < rows.length
    · rw [if_pos h]
      have h3 := ih (i + 1) (acc ++ [rows.getD (w.getD i 0).toNat z36]) (by omega) (fun r hr => by
        rcases List.mem_append.1 hr with hr | hr
        · exact ha r hr
        · rw [List.mem_singleton] at hr; subst hr; exact hg _ (getD_mem _ (by omega))) (by simp; omega)
      rw [List.append_assoc, List.singleton_append] at h3
      refine Ev.step (fun q => ?_) h3
      simp only [bucketlineref18_sum.l0]
      rw [if_pos (by omega), if_pos (by omega), rd_nat, if_pos h.1, if_pos h.2, if_pos h.1, if_pos (by omega)]
      exact congrFun (step _) q
    · rw [if_neg h]
      refine Ev.step (fun q => ?_) (ih (i + 1) acc (by omega) ha (by omega))
      simp only [bucketlineref18_sum.l0]
      rw [if_pos (by omega), if_pos (by omega), rd_nat]
      by_cases h1 : w.getD i 0 ≥ 0
      · rw [if_pos h1, if_neg (fun h2 => h ⟨h1, h2⟩)]
        exact congrFun (step _) q
      · rw [if_neg h1]
        exact congrFun (step _) q
theorem sum {rows : List SR} {w : List Int} (hg : ∀ r ∈ rows, GoodR r) (hr : rows.length ≤ 1000000) (hw : w.length ≤ 1000) : Ev (fun q => bucketlineref18_sum.f q rows w) (rowV (pickR rows w) [], strOfNums (rowD (pickR rows w) [])) := by
  have := sum_loop hg hr hw w.length 0 [] (by omega) (fun _ h => by cases h) (by simp)
  exact this
theorem rowV_ok : ∀ (l : List SR) (v : List Int), (∀ r ∈ l, GoodR r) → U v → v.length ≤ 100 → U (rowV l v) ∧ (rowV l v).length ≤ 100
  | [], v, _, hu, hv => ⟨hu, hv⟩
  | r :: l, v, hg, hu, hv => by
    have h := hg r (by simp)
    exact rowV_ok l _ (fun x hx => hg x (by simp [hx])) (U_xorL hu h.u) (by rw [xorL_length]; have := h.n; omega)
theorem Degree {rows : List SR} {w : List Int} (hg : ∀ r ∈ rows, GoodR r) (hr : rows.length ≤ 1000000) (hw : w.length ≤ 1000) : Ev (fun q => recode_Degree.f q rows w) (cnt (val (rowV (pickR rows w) [])) : Int) := by
  have h := rowV_ok (pickR rows w) [] (pickR_good hg w) U.nil (by simp)
  unfold recode_Degree.f
  exact Ev.bind (mix hg hr hw) (Ev.bind (Count (l := rowV (pickR rows w) []) h.1 (Nat.le_trans h.2 (by decide))) (Ev.now _))
theorem rDegree {rows : List SR} {w : List Int} (hg : ∀ r ∈ rows, GoodR r) (hr : rows.length ≤ 1000000) (hw : w.length ≤ 1000) : Ev (fun q => bucketlineref18_Degree.f q rows w) (cnt (val (rowV (pickR rows w) [])) : Int) := by
  have h := rowV_ok (pickR rows w) [] (pickR_good hg w) U.nil (by simp)
  unfold bucketlineref18_Degree.f
  exact Ev.bind (sum hg hr hw) (Ev.bind (ref_Count (l := rowV (pickR rows w) []) h.1 (Nat.lt_of_le_of_lt h.2 (by decide))) (Ev.now _))
end Go.Proofs.YtlpcphndgjibpaaDoor.S
