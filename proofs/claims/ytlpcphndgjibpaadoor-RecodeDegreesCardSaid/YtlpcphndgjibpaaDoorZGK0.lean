/- Written by wip/gen/tie.py: what the program's functions come to, by the plain functions of the same names. No condition. -/
import Derived.Test.YtlpcphndgjibpaaDoorZGRxZ
namespace Go.Proofs.YtlpcphndgjibpaaDoor.Rx
open Go Go.Proofs Go.Proofs.YtlpcphndgjibpaaDoor.P Go.RowKit Go.Proofs.YtlpcphndgjibpaaDoorW.PrintWords Go.Proofs.YtlpcphndgjibpaaDoorW.PrintLast Go.Proofs.YtlpcphndgjibpaaDoorW.PrintMore
set_option linter.unusedVariables false
set_option linter.unusedSimpArgs false
set_option maxRecDepth 100000
def c36 (θ : Pr) (x : S36) : Nat → DV := fun j => match j with
  | 0 => (eI θ .u64 x.f0)
  | _ => (.sc (.string x.f1))
abbrev est_36 (θ : Pr) (l : List S36) : DV := .sl (θ.len l) 2 (fun i j => c36 θ (θ.get l i z36) j)
abbrev bst_36 (θ : Pr) (l : List S36) : Blk := .vec (θ.len l) 36 2 (fun i j => c36 θ (θ.get l i z36) j) true false
theorem n_T36 (xs : List S36) (i : Int) : xs.getD i.toNat { f0 := [], f1 := { data := { toList := [] } } } = rd_T36 xs i := rfl
def c38 (θ : Pr) (x : S38) : Nat → DV := fun j => match j with
  | 0 => (.sc (.int .i64 x.f0))
  | 1 => (.sc (.int .i64 x.f1))
  | 2 => (.sc (.int .i64 x.f2))
  | 3 => (.sc (.int .i64 x.f3))
  | 4 => (.sc (.int .i64 x.f4))
  | 5 => (eI θ .u64 x.f5.f0)
  | _ => (.sc (.string x.f5.f1))
abbrev est_38 (θ : Pr) (l : List S38) : DV := .sl (θ.len l) 7 (fun i j => c38 θ (θ.get l i z38) j)
abbrev bst_38 (θ : Pr) (l : List S38) : Blk := .vec (θ.len l) 38 7 (fun i j => c38 θ (θ.get l i z38) j) true false
theorem n_T38 (xs : List S38) (i : Int) : xs.getD i.toNat { f0 := 0, f1 := 0, f2 := 0, f3 := 0, f4 := 0, f5 := { f0 := [], f1 := { data := { toList := [] } } } } = rd_T38 xs i := rfl
theorem bucketlinelaw02_Few.l0_s {r : Int} : ∀ {k : Nat} {x0 : List (S36)} {x3 : Int}, bucketlinelaw02_Few.l0 k x0 x3 = some r → ∃ q, q < k ∧ (if x3 < (x0.length : Int) then (if 0 ≤ x3 then (if (((rd_T36 x0 x3).f0).length : Int) > 10 then (some 0) else (if (((rd_T36 x0 x3).f1).size : Int) > 1000 then (some 0) else (bucketlinelaw02_Few.l0 q x0 (wrap64 (x3 + 1))))) else (none)) else (some 1)) = some r
  | 0, _, _, h => by cases h
  | k + 1, _, _, h => ⟨k, Nat.lt_succ_self k, h⟩
set_option maxHeartbeats 4000000 in
theorem ac_bucketlinelaw02_Few {k : Nat} {l0 : List (S36)} {r : Int} (h : bucketlinelaw02_Few.f k l0 = some r) : AC Tryd.prog N0 G0 11 [] [.c (.d (est_36 Θ l0))] [] (.c (.d (.sc (.int .i64 r)))) := by
  refine ac_mk Tryd.func11 rfl (by decide) rfl ?_
  generalize hθ : Θ = θ
  rw [bucketlinelaw02_Few.f] at h
  cbv
  repeat' first
    | ((with_reducible refine pre_and ?_ ?_); rotate_left; (try cbv))
    | with_reducible exact noneO h
    | ((with_reducible replace h := iteO h); rcases h with ⟨hc, h⟩ | ⟨hc, h⟩ <;> (try simp only [decide_eq_true_eq, decide_eq_false_iff_not, beq_iff_eq, bne_iff_ne, beq_eq_false_iff_ne, bne_eq_false_iff_eq, ne_eq, Bool.not_eq_true', Bool.not_eq_false', Bool.not_eq_true, Bool.not_eq_false, Bool.and_eq_true, gt_iff_lt, ge_iff_le, Int.not_lt, Int.not_le] at hc))
    | with_reducible replace h := someB h
    | with_reducible refine hQl0 _ _ _ (by omega) ⟨_, _, h, rfl⟩ ?_
    | ((with_reducible refine loopI hθ (fun k s => ∃ (x0 : List (S36)) (x3 : Int), bucketlinelaw02_Few.l0 k x0 x3 = some r ∧ s = ⟨envL [(0, .c (.d (est_36 θ x0))), (3, .c (.d (.sc (.int .i64 x3))))], arOf [], 0, 29, 0⟩) ⟨_, _, h, rfl⟩ ?_ ?_); rotate_left; (rintro m _ Ql0 hm ⟨x0, x3, h, rfl⟩ hQl0; replace h := bucketlinelaw02_Few.l0_s h; obtain ⟨k, hk, h⟩ := h; cbv))
    | ((with_reducible replace h := Option.some.inj h); subst h; simp only [← hθ, Θ, stdP, std]; refine exp_of0 ?_)
    | (split <;> (try (rename_i heq; simp only [Int.zero_sub, condEq, decTrue, nstr2, nbl, nrdB, ← hθ, Θ, stdP, std, cmpI, ari, shf, una, mxI, nw64, nw8, nshr, nshl, nbyte, nmx, nmn, nrd, n_T36, n_T38, decide_eq_true_eq, decide_eq_false_iff_not, beq_iff_eq, bne_iff_ne, beq_eq_false_iff_ne, bne_eq_false_iff_eq, ne_eq, Bool.not_eq_true', Bool.not_eq_false', Bool.not_eq_true, Bool.not_eq_false, Bool.and_eq_true, gt_iff_lt, ge_iff_le, Int.not_lt, Int.not_le] at heq)) <;> first | (exfalso; (try clear hac); (try clear hQl0); (try simp only [ncast, List.length_replicate] at *); omega) | (exfalso; rw [heq] at hc; cases hc; done) | (exfalso; exact absurd hc heq) | (exfalso; exact absurd heq hc) | (exfalso; (try clear hac); (try clear hQl0); simp_all; done) | (try cbv))
  iterate 3 all_goals repeat' first
    | with_reducible refine sub_of0 ?_ rfl
    | with_reducible apply sub_of1
    | with_reducible apply sub_of2
    | with_reducible apply sub_of3
    | with_reducible exact esle_nil
    | ((with_reducible apply esle_c); · first | rfl | exact rfl)
    | ((with_reducible apply esle_a); · first | rfl | exact rfl)
    | with_reducible exact bsle_nil
    | with_reducible refine bsle_cons ?_ ?_
    | with_reducible exact dts_nil
    | with_reducible refine dts_cons ?_ ?_
    | with_reducible refine tle_int ?_
    | with_reducible refine tle_bool ?_
    | with_reducible refine tle_str ?_
    | ((with_reducible apply tle_own); · first | rfl | exact rfl)
    | ((with_reducible apply tle_nilown); · first | rfl | exact rfl)
    | with_reducible refine tle_sl ?_ ?_
    | with_reducible refine tle_nil ?_
    | ((with_reducible apply tle_ownd); rotate_left; · first | rfl | exact rfl; rotate_right)
    | with_reducible refine tle_agg ?_
    | with_reducible refine tle_tup ?_
    | with_reducible exact csle_nil
    | with_reducible refine csle_cons ?_ ?_
    | with_reducible exact tsle_nil
    | with_reducible refine tsle_cons ?_ ?_
    | with_reducible refine cle_int ?_
    | with_reducible refine cle_bool ?_
    | with_reducible refine cle_str ?_
    | ((with_reducible apply cle_own); · first | rfl | exact rfl)
    | ((with_reducible apply cle_nilown); · first | rfl | exact rfl)
    | with_reducible refine cle_sl ?_ ?_
    | with_reducible refine cle_nil ?_
    | ((with_reducible apply cle_ownd); rotate_left; · first | rfl | exact rfl; rotate_right)
    | with_reducible exact cle_rfl
    | ((with_reducible apply ble_vec); · first | rfl | exact rfl; · exact fun h => h)
    | with_reducible refine ble_none ?_
    | ((with_reducible apply ble_box); · first | rfl | exact rfl)
    | ((with_reducible apply tle_ptr); · first | rfl | exact rfl)
    | ((with_reducible apply tle_vptr); · first | rfl | exact rfl)
    | with_reducible exact ble_dead
    | ((with_reducible apply cle_ptr); · first | rfl | exact rfl)
    | with_reducible exact cle_junk
    | with_reducible refine dt_int ?_
    | with_reducible refine dt_bool ?_
    | with_reducible refine dt_str ?_
    | with_reducible refine dt_sl ?_ ?_
    | with_reducible refine dt_nil ?_
    | with_reducible refine dt_agg ?_
    | with_reducible exact dcs_nil
    | with_reducible refine dcs_cons ?_ ?_
    | with_reducible exact dcs_mapn
    | with_reducible refine dcs_mapc ?_ ?_
    | with_reducible exact dl_rfl
    | with_reducible refine dl_int ?_
    | with_reducible refine dl_bool ?_
    | with_reducible refine dl_str ?_
    | with_reducible refine dl_sl ?_ ?_
    | with_reducible refine dl_nil ?_
    | with_reducible exact nth_ne rfl
    | ((with_reducible apply nth_ne); exact rfl)
    | (intro i hi; exact ⟨_, rfl⟩)
    | (intro i hi j hj; first | rfl | ((obtain rfl : j = 0 := by omega); first | exact plit1 hθ _ _ _ hi | exact papp1 hθ _ _ _ _ (by first | exact hi | (simp only [← hθ, Θ, stdP, std] at hi; (try clear hac); (try clear hQl0); (try simp only [ncast, List.length_replicate] at *); omega)) | ((try rw [pset hθ]); (try rw [psetz hθ]); (try rw [papp hθ]); (try rw [pover hθ]); (try rw [pover1 hθ]); (try rw [poverz hθ _ _ _ _ _ rfl]); (simp only [Int.zero_sub, condEq, decTrue, nstr2, nbl, nrdB, ← hθ, Θ, stdP, std, cmpI, ari, shf, una, mxI, nw64, nw8, nshr, nshl, nbyte, nmx, nmn, nrd, n_T36, n_T38, repD, repDB, condSelf] at hi ⊢); first | done | rfl | (refine scC ?_; first | rfl | exact setD _ _ _ _ (by (try clear hac); (try clear hQl0); (try simp only [ncast, List.length_replicate] at *); omega) | exact setDz _ _ _ _ (by (try clear hac); (try clear hQl0); (try simp only [ncast, List.length_replicate] at *); omega) | exact appD _ _ _ | exact padD _ _ _ | exact nbo _ _) | (refine scB ?_; first | rfl | exact setDB _ _ _ _ (by (try clear hac); (try clear hQl0); (try simp only [ncast, List.length_replicate] at *); omega) | exact setDBz _ _ _ _ (by (try clear hac); (try clear hQl0); (try simp only [ncast, List.length_replicate] at *); omega)) | fail)))
    | rfl
    | (simp only [Int.zero_sub, condEq, decTrue, nstr2, nbl, nrdB, ← hθ, Θ, stdP, std, cmpI, ari, shf, una, mxI, nw64, nw8, nshr, nshl, nbyte, nmx, nmn, nrd, n_T36, n_T38]; done)
    | ((try simp only [Int.zero_sub, condEq, decTrue, nstr2, nbl, nrdB, ← hθ, Θ, stdP, std, cmpI, ari, shf, una, mxI, nw64, nw8, nshr, nshl, nbyte, nmx, nmn, nrd, n_T36, n_T38, true_and, and_true]); (try clear hac); (try clear hQl0); (try simp only [ncast] at *); first | trivial | omega | (refine ⟨?_, ?_⟩ <;> omega) | (refine ⟨?_, ?_, ?_, ?_⟩ <;> omega) | (simp; done) | (simp; omega) | fail)
theorem bucketlineref01_Ints.l0_s {r : Bool} : ∀ {k : Nat} {x0 : List Int} {x1 : List Int} {x5 : Int}, bucketlineref01_Ints.l0 k x0 x1 x5 = some r → ∃ q, q < k ∧ (if x5 < (x0.length : Int) then (if 0 ≤ x5 then (if x5 < (x1.length : Int) then (if (rd x0 x5) = (rd x1 x5) then (bucketlineref01_Ints.l0 q x0 x1 (wrap64 (x5 + 1))) else (some false)) else (none)) else (none)) else (some true)) = some r
  | 0, _, _, _, h => by cases h
  | k + 1, _, _, _, h => ⟨k, Nat.lt_succ_self k, h⟩
set_option maxHeartbeats 4000000 in
theorem ac_bucketlineref01_Ints {k : Nat} {l0 : List Int} {l1 : List Int} {r : Bool} (h : bucketlineref01_Ints.f k l0 l1 = some r) : AC Tryd.prog N0 G0 14 [] [.c (.d (eI Θ .i64 l0)), .c (.d (eI Θ .i64 l1))] [] (.c (.d (.sc (.bool r)))) := by
  refine ac_mk Tryd.func14 rfl (by decide) rfl ?_
  generalize hθ : Θ = θ
  rw [bucketlineref01_Ints.f] at h
  cbv
  repeat' first
    | ((with_reducible refine pre_and ?_ ?_); rotate_left; (try cbv))
    | with_reducible exact noneO h
    | ((with_reducible replace h := iteO h); rcases h with ⟨hc, h⟩ | ⟨hc, h⟩ <;> (try simp only [decide_eq_true_eq, decide_eq_false_iff_not, beq_iff_eq, bne_iff_ne, beq_eq_false_iff_ne, bne_eq_false_iff_eq, ne_eq, Bool.not_eq_true', Bool.not_eq_false', Bool.not_eq_true, Bool.not_eq_false, Bool.and_eq_true, gt_iff_lt, ge_iff_le, Int.not_lt, Int.not_le] at hc))
    | with_reducible replace h := someB h
    | with_reducible refine hQl0 _ _ _ (by omega) ⟨_, _, _, h, rfl⟩ ?_
    | ((with_reducible refine loopI hθ (fun k s => ∃ (x0 : List Int) (x1 : List Int) (x5 : Int), bucketlineref01_Ints.l0 k x0 x1 x5 = some r ∧ s = ⟨envL [(0, .c (.d (eI θ .i64 x0))), (1, .c (.d (eI θ .i64 x1))), (5, .c (.d (.sc (.int .i64 x5))))], arOf [], 0, 26, 0⟩) ⟨_, _, _, h, rfl⟩ ?_ ?_); rotate_left; (rintro m _ Ql0 hm ⟨x0, x1, x5, h, rfl⟩ hQl0; replace h := bucketlineref01_Ints.l0_s h; obtain ⟨k, hk, h⟩ := h; cbv))
    | ((with_reducible replace h := Option.some.inj h); subst h; simp only [← hθ, Θ, stdP, std]; refine exp_of0 ?_)
    | (split <;> (try (rename_i heq; simp only [Int.zero_sub, condEq, decTrue, nstr2, nbl, nrdB, ← hθ, Θ, stdP, std, cmpI, ari, shf, una, mxI, nw64, nw8, nshr, nshl, nbyte, nmx, nmn, nrd, n_T36, n_T38, decide_eq_true_eq, decide_eq_false_iff_not, beq_iff_eq, bne_iff_ne, beq_eq_false_iff_ne, bne_eq_false_iff_eq, ne_eq, Bool.not_eq_true', Bool.not_eq_false', Bool.not_eq_true, Bool.not_eq_false, Bool.and_eq_true, gt_iff_lt, ge_iff_le, Int.not_lt, Int.not_le] at heq)) <;> first | (exfalso; (try clear hac); (try clear hQl0); (try simp only [ncast, List.length_replicate] at *); omega) | (exfalso; rw [heq] at hc; cases hc; done) | (exfalso; exact absurd hc heq) | (exfalso; exact absurd heq hc) | (exfalso; (try clear hac); (try clear hQl0); simp_all; done) | (try cbv))
  iterate 3 all_goals repeat' first
    | with_reducible refine sub_of0 ?_ rfl
    | with_reducible apply sub_of1
    | with_reducible apply sub_of2
    | with_reducible apply sub_of3
    | with_reducible exact esle_nil
    | ((with_reducible apply esle_c); · first | rfl | exact rfl)
    | ((with_reducible apply esle_a); · first | rfl | exact rfl)
    | with_reducible exact bsle_nil
    | with_reducible refine bsle_cons ?_ ?_
    | with_reducible exact dts_nil
    | with_reducible refine dts_cons ?_ ?_
    | with_reducible refine tle_int ?_
    | with_reducible refine tle_bool ?_
    | with_reducible refine tle_str ?_
    | ((with_reducible apply tle_own); · first | rfl | exact rfl)
    | ((with_reducible apply tle_nilown); · first | rfl | exact rfl)
    | with_reducible refine tle_sl ?_ ?_
    | with_reducible refine tle_nil ?_
    | ((with_reducible apply tle_ownd); rotate_left; · first | rfl | exact rfl; rotate_right)
    | ((with_reducible apply ble_vec); · first | rfl | exact rfl; · exact fun h => h)
    | with_reducible refine ble_none ?_
    | with_reducible refine dt_int ?_
    | with_reducible refine dt_bool ?_
    | with_reducible refine dt_str ?_
    | with_reducible refine dt_sl ?_ ?_
    | with_reducible refine dt_nil ?_
    | with_reducible exact nth_ne rfl
    | ((with_reducible apply nth_ne); exact rfl)
    | (intro i hi; exact ⟨_, rfl⟩)
    | (intro i hi j hj; first | rfl | ((obtain rfl : j = 0 := by omega); first | exact plit1 hθ _ _ _ hi | exact papp1 hθ _ _ _ _ (by first | exact hi | (simp only [← hθ, Θ, stdP, std] at hi; (try clear hac); (try clear hQl0); (try simp only [ncast, List.length_replicate] at *); omega)) | ((try rw [pset hθ]); (try rw [psetz hθ]); (try rw [papp hθ]); (try rw [pover hθ]); (try rw [pover1 hθ]); (try rw [poverz hθ _ _ _ _ _ rfl]); (simp only [Int.zero_sub, condEq, decTrue, nstr2, nbl, nrdB, ← hθ, Θ, stdP, std, cmpI, ari, shf, una, mxI, nw64, nw8, nshr, nshl, nbyte, nmx, nmn, nrd, n_T36, n_T38, repD, repDB, condSelf] at hi ⊢); first | done | rfl | (refine scC ?_; first | rfl | exact setD _ _ _ _ (by (try clear hac); (try clear hQl0); (try simp only [ncast, List.length_replicate] at *); omega) | exact setDz _ _ _ _ (by (try clear hac); (try clear hQl0); (try simp only [ncast, List.length_replicate] at *); omega) | exact appD _ _ _ | exact padD _ _ _ | exact nbo _ _) | (refine scB ?_; first | rfl | exact setDB _ _ _ _ (by (try clear hac); (try clear hQl0); (try simp only [ncast, List.length_replicate] at *); omega) | exact setDBz _ _ _ _ (by (try clear hac); (try clear hQl0); (try simp only [ncast, List.length_replicate] at *); omega)) | fail)))
    | rfl
    | (simp only [Int.zero_sub, condEq, decTrue, nstr2, nbl, nrdB, ← hθ, Θ, stdP, std, cmpI, ari, shf, una, mxI, nw64, nw8, nshr, nshl, nbyte, nmx, nmn, nrd, n_T36, n_T38]; done)
    | ((try simp only [Int.zero_sub, condEq, decTrue, nstr2, nbl, nrdB, ← hθ, Θ, stdP, std, cmpI, ari, shf, una, mxI, nw64, nw8, nshr, nshl, nbyte, nmx, nmn, nrd, n_T36, n_T38, true_and, and_true]); (try clear hac); (try clear hQl0); (try simp only [ncast] at *); first | trivial | omega | (refine ⟨?_, ?_⟩ <;> omega) | (refine ⟨?_, ?_, ?_, ?_⟩ <;> omega) | (simp; done) | (simp; omega) | fail)
set_option maxHeartbeats 4000000 in
theorem ac_recode_far {a0 : Int} {a1 : Int} {r : Int} (h : recode_far.f a0 a1 = some r) : AC Tryd.prog N0 G0 34 [] [.c (.d (.sc (.int .i64 a0))), .c (.d (.sc (.int .i64 a1)))] [] (.c (.d (.sc (.int .i64 r)))) := by
  refine ac_mk Tryd.func34 rfl (by decide) rfl ?_
  generalize hθ : Θ = θ
  rw [recode_far.f] at h
  cbv
  repeat' first
    | ((with_reducible refine pre_and ?_ ?_); rotate_left; (try cbv))
    | with_reducible exact noneO h
    | ((with_reducible replace h := iteO h); rcases h with ⟨hc, h⟩ | ⟨hc, h⟩ <;> (try simp only [decide_eq_true_eq, decide_eq_false_iff_not, beq_iff_eq, bne_iff_ne, beq_eq_false_iff_ne, bne_eq_false_iff_eq, ne_eq, Bool.not_eq_true', Bool.not_eq_false', Bool.not_eq_true, Bool.not_eq_false, Bool.and_eq_true, gt_iff_lt, ge_iff_le, Int.not_lt, Int.not_le] at hc))
    | with_reducible replace h := someB h
    | ((with_reducible replace h := Option.some.inj h); subst h; simp only [← hθ, Θ, stdP, std]; refine exp_of0 ?_)
    | (split <;> (try (rename_i heq; simp only [Int.zero_sub, condEq, decTrue, nstr2, nbl, nrdB, ← hθ, Θ, stdP, std, cmpI, ari, shf, una, mxI, nw64, nw8, nshr, nshl, nbyte, nmx, nmn, nrd, n_T36, n_T38, decide_eq_true_eq, decide_eq_false_iff_not, beq_iff_eq, bne_iff_ne, beq_eq_false_iff_ne, bne_eq_false_iff_eq, ne_eq, Bool.not_eq_true', Bool.not_eq_false', Bool.not_eq_true, Bool.not_eq_false, Bool.and_eq_true, gt_iff_lt, ge_iff_le, Int.not_lt, Int.not_le] at heq)) <;> first | (exfalso; (try clear hac); (try simp only [ncast, List.length_replicate] at *); omega) | (exfalso; rw [heq] at hc; cases hc; done) | (exfalso; exact absurd hc heq) | (exfalso; exact absurd heq hc) | (exfalso; (try clear hac); simp_all; done) | (try cbv))
  iterate 3 all_goals repeat' first
    | with_reducible exact esle_nil
    | ((with_reducible apply esle_c); · first | rfl | exact rfl)
    | ((with_reducible apply esle_a); · first | rfl | exact rfl)
    | with_reducible exact bsle_nil
    | with_reducible refine bsle_cons ?_ ?_
    | with_reducible exact dts_nil
    | with_reducible refine dts_cons ?_ ?_
    | with_reducible refine tle_int ?_
    | with_reducible refine tle_bool ?_
    | with_reducible refine tle_str ?_
    | ((with_reducible apply tle_own); · first | rfl | exact rfl)
    | ((with_reducible apply tle_nilown); · first | rfl | exact rfl)
    | with_reducible refine tle_sl ?_ ?_
    | with_reducible refine tle_nil ?_
    | ((with_reducible apply tle_ownd); rotate_left; · first | rfl | exact rfl; rotate_right)
    | ((with_reducible apply ble_vec); · first | rfl | exact rfl; · exact fun h => h)
    | with_reducible refine ble_none ?_
    | with_reducible refine dt_int ?_
    | with_reducible refine dt_bool ?_
    | with_reducible refine dt_str ?_
    | with_reducible refine dt_sl ?_ ?_
    | with_reducible refine dt_nil ?_
    | with_reducible exact nth_ne rfl
    | ((with_reducible apply nth_ne); exact rfl)
    | (intro i hi; exact ⟨_, rfl⟩)
    | (intro i hi j hj; first | rfl | ((obtain rfl : j = 0 := by omega); first | exact plit1 hθ _ _ _ hi | exact papp1 hθ _ _ _ _ (by first | exact hi | (simp only [← hθ, Θ, stdP, std] at hi; (try clear hac); (try simp only [ncast, List.length_replicate] at *); omega)) | ((try rw [pset hθ]); (try rw [psetz hθ]); (try rw [papp hθ]); (try rw [pover hθ]); (try rw [pover1 hθ]); (try rw [poverz hθ _ _ _ _ _ rfl]); (simp only [Int.zero_sub, condEq, decTrue, nstr2, nbl, nrdB, ← hθ, Θ, stdP, std, cmpI, ari, shf, una, mxI, nw64, nw8, nshr, nshl, nbyte, nmx, nmn, nrd, n_T36, n_T38, repD, repDB, condSelf] at hi ⊢); first | done | rfl | (refine scC ?_; first | rfl | exact setD _ _ _ _ (by (try clear hac); (try simp only [ncast, List.length_replicate] at *); omega) | exact setDz _ _ _ _ (by (try clear hac); (try simp only [ncast, List.length_replicate] at *); omega) | exact appD _ _ _ | exact padD _ _ _ | exact nbo _ _) | (refine scB ?_; first | rfl | exact setDB _ _ _ _ (by (try clear hac); (try simp only [ncast, List.length_replicate] at *); omega) | exact setDBz _ _ _ _ (by (try clear hac); (try simp only [ncast, List.length_replicate] at *); omega)) | fail)))
    | rfl
    | (simp only [Int.zero_sub, condEq, decTrue, nstr2, nbl, nrdB, ← hθ, Θ, stdP, std, cmpI, ari, shf, una, mxI, nw64, nw8, nshr, nshl, nbyte, nmx, nmn, nrd, n_T36, n_T38]; done)
    | ((try simp only [Int.zero_sub, condEq, decTrue, nstr2, nbl, nrdB, ← hθ, Θ, stdP, std, cmpI, ari, shf, una, mxI, nw64, nw8, nshr, nshl, nbyte, nmx, nmn, nrd, n_T36, n_T38, true_and, and_true]); (try clear hac); (try simp only [ncast] at *); first | trivial | omega | (refine ⟨?_, ?_⟩ <;> omega) | (refine ⟨?_, ?_, ?_, ?_⟩ <;> omega) | (simp; done) | (simp; omega) | fail)
set_option maxHeartbeats 4000000 in
theorem ac_bits_OnesCount64 {a0 : Int} {r : Int} (h : bits_OnesCount64.f a0 = some r) : AC Tryd.prog N0 G0 51 [] [.c (.d (.sc (.int .u64 a0)))] [] (.c (.d (.sc (.int .i64 r)))) := by
  refine ac_mk Tryd.func51 rfl (by decide) rfl ?_
  generalize hθ : Θ = θ
  rw [bits_OnesCount64.f] at h
  cbv
  repeat' first
    | ((with_reducible refine pre_and ?_ ?_); rotate_left; (try cbv))
    | with_reducible exact noneO h
    | ((with_reducible replace h := iteO h); rcases h with ⟨hc, h⟩ | ⟨hc, h⟩ <;> (try simp only [decide_eq_true_eq, decide_eq_false_iff_not, beq_iff_eq, bne_iff_ne, beq_eq_false_iff_ne, bne_eq_false_iff_eq, ne_eq, Bool.not_eq_true', Bool.not_eq_false', Bool.not_eq_true, Bool.not_eq_false, Bool.and_eq_true, gt_iff_lt, ge_iff_le, Int.not_lt, Int.not_le] at hc))
    | with_reducible replace h := someB h
    | ((with_reducible replace h := Option.some.inj h); subst h; simp only [← hθ, Θ, stdP, std]; refine exp_of0 ?_)
    | (split <;> (try (rename_i heq; simp only [Int.zero_sub, condEq, decTrue, nstr2, nbl, nrdB, ← hθ, Θ, stdP, std, cmpI, ari, shf, una, mxI, nw64, nw8, nshr, nshl, nbyte, nmx, nmn, nrd, n_T36, n_T38, decide_eq_true_eq, decide_eq_false_iff_not, beq_iff_eq, bne_iff_ne, beq_eq_false_iff_ne, bne_eq_false_iff_eq, ne_eq, Bool.not_eq_true', Bool.not_eq_false', Bool.not_eq_true, Bool.not_eq_false, Bool.and_eq_true, gt_iff_lt, ge_iff_le, Int.not_lt, Int.not_le] at heq)) <;> first | (exfalso; (try clear hac); (try simp only [ncast, List.length_replicate] at *); omega) | (exfalso; rw [heq] at hc; cases hc; done) | (exfalso; exact absurd hc heq) | (exfalso; exact absurd heq hc) | (exfalso; (try clear hac); simp_all; done) | (try cbv))
  iterate 3 all_goals repeat' first
    | with_reducible exact esle_nil
    | ((with_reducible apply esle_c); · first | rfl | exact rfl)
    | ((with_reducible apply esle_a); · first | rfl | exact rfl)
    | with_reducible exact bsle_nil
    | with_reducible refine bsle_cons ?_ ?_
    | with_reducible exact dts_nil
    | with_reducible refine dts_cons ?_ ?_
    | with_reducible refine tle_int ?_
    | with_reducible refine tle_bool ?_
    | with_reducible refine tle_str ?_
    | ((with_reducible apply tle_own); · first | rfl | exact rfl)
    | ((with_reducible apply tle_nilown); · first | rfl | exact rfl)
    | with_reducible refine tle_sl ?_ ?_
    | with_reducible refine tle_nil ?_
    | ((with_reducible apply tle_ownd); rotate_left; · first | rfl | exact rfl; rotate_right)
    | ((with_reducible apply ble_vec); · first | rfl | exact rfl; · exact fun h => h)
    | with_reducible refine ble_none ?_
    | with_reducible refine dt_int ?_
    | with_reducible refine dt_bool ?_
    | with_reducible refine dt_str ?_
    | with_reducible refine dt_sl ?_ ?_
    | with_reducible refine dt_nil ?_
    | with_reducible exact nth_ne rfl
    | ((with_reducible apply nth_ne); exact rfl)
    | (intro i hi; exact ⟨_, rfl⟩)
    | (intro i hi j hj; first | rfl | ((obtain rfl : j = 0 := by omega); first | exact plit1 hθ _ _ _ hi | exact papp1 hθ _ _ _ _ (by first | exact hi | (simp only [← hθ, Θ, stdP, std] at hi; (try clear hac); (try simp only [ncast, List.length_replicate] at *); omega)) | ((try rw [pset hθ]); (try rw [psetz hθ]); (try rw [papp hθ]); (try rw [pover hθ]); (try rw [pover1 hθ]); (try rw [poverz hθ _ _ _ _ _ rfl]); (simp only [Int.zero_sub, condEq, decTrue, nstr2, nbl, nrdB, ← hθ, Θ, stdP, std, cmpI, ari, shf, una, mxI, nw64, nw8, nshr, nshl, nbyte, nmx, nmn, nrd, n_T36, n_T38, repD, repDB, condSelf] at hi ⊢); first | done | rfl | (refine scC ?_; first | rfl | exact setD _ _ _ _ (by (try clear hac); (try simp only [ncast, List.length_replicate] at *); omega) | exact setDz _ _ _ _ (by (try clear hac); (try simp only [ncast, List.length_replicate] at *); omega) | exact appD _ _ _ | exact padD _ _ _ | exact nbo _ _) | (refine scB ?_; first | rfl | exact setDB _ _ _ _ (by (try clear hac); (try simp only [ncast, List.length_replicate] at *); omega) | exact setDBz _ _ _ _ (by (try clear hac); (try simp only [ncast, List.length_replicate] at *); omega)) | fail)))
    | rfl
    | (simp only [Int.zero_sub, condEq, decTrue, nstr2, nbl, nrdB, ← hθ, Θ, stdP, std, cmpI, ari, shf, una, mxI, nw64, nw8, nshr, nshl, nbyte, nmx, nmn, nrd, n_T36, n_T38]; done)
    | ((try simp only [Int.zero_sub, condEq, decTrue, nstr2, nbl, nrdB, ← hθ, Θ, stdP, std, cmpI, ari, shf, una, mxI, nw64, nw8, nshr, nshl, nbyte, nmx, nmn, nrd, n_T36, n_T38, true_and, and_true]); (try clear hac); (try simp only [ncast] at *); first | trivial | omega | (refine ⟨?_, ?_⟩ <;> omega) | (refine ⟨?_, ?_, ?_, ?_⟩ <;> omega) | (simp; done) | (simp; omega) | fail)
theorem words_Count.l0_s {r : Int} : ∀ {k : Nat} {x3 : Int} {x6 : List Int} {x7 : Int} {x8 : Int}, words_Count.l0 k x3 x6 x7 x8 = some r → ∃ q, q < k ∧ (if x8 < x7 then (if 0 ≤ x8 then (if x8 < (x6.length : Int) then ((bits_OnesCount64.f (rd x6 x8)).bind fun t106 => (words_Count.l0 q (wrap64 (x3 + t106)) x6 x7 (wrap64 (x8 + 1)))) else (none)) else (none)) else (some x3)) = some r
  | 0, _, _, _, _, h => by cases h
  | k + 1, _, _, _, _, h => ⟨k, Nat.lt_succ_self k, h⟩
set_option maxHeartbeats 4000000 in
theorem ac_words_Count {k : Nat} {l0 : List Int} {r : Int} (h : words_Count.f k l0 = some r) : AC Tryd.prog N0 G0 35 [] [.c (.d (eI Θ .u64 l0))] [] (.c (.d (.sc (.int .i64 r)))) := by
  refine ac_mk Tryd.func35 rfl (by decide) rfl ?_
  generalize hθ : Θ = θ
  rw [words_Count.f] at h
  cbv
  repeat' first
    | ((with_reducible refine pre_and ?_ ?_); rotate_left; (try cbv))
    | with_reducible exact noneO h
    | ((with_reducible replace h := iteO h); rcases h with ⟨hc, h⟩ | ⟨hc, h⟩ <;> (try simp only [decide_eq_true_eq, decide_eq_false_iff_not, beq_iff_eq, bne_iff_ne, beq_eq_false_iff_ne, bne_eq_false_iff_eq, ne_eq, Bool.not_eq_true', Bool.not_eq_false', Bool.not_eq_true, Bool.not_eq_false, Bool.and_eq_true, gt_iff_lt, ge_iff_le, Int.not_lt, Int.not_le] at hc))
    | with_reducible replace h := someB h
    | ((with_reducible replace h := bindO h); obtain ⟨t, ht, h⟩ := h; have hac := ac_bits_OnesCount64 ht; (try rw [hθ] at hac); refine call_rule' hθ hac rfl rfl ?_ rfl ?_; clear hac; rotate_left; (try cbv))
    | with_reducible refine hQl0 _ _ _ (by omega) ⟨_, _, _, _, h, rfl⟩ ?_
    | ((with_reducible refine loopI hθ (fun k s => ∃ (x3 : Int) (x6 : List Int) (x7 : Int) (x8 : Int), words_Count.l0 k x3 x6 x7 x8 = some r ∧ s = ⟨envL [(3, .c (.d (.sc (.int .i64 x3)))), (6, .c (.d (eI θ .u64 x6))), (7, .c (.d (.sc (.int .i64 x7)))), (8, .c (.d (.sc (.int .i64 x8))))], arOf [], 0, 18, 0⟩) ⟨_, _, _, _, h, rfl⟩ ?_ ?_); rotate_left; (rintro m _ Ql0 hm ⟨x3, x6, x7, x8, h, rfl⟩ hQl0; replace h := words_Count.l0_s h; obtain ⟨k, hk, h⟩ := h; cbv))
    | ((with_reducible replace h := Option.some.inj h); subst h; simp only [← hθ, Θ, stdP, std]; refine exp_of0 ?_)
    | (split <;> (try (rename_i heq; simp only [Int.zero_sub, condEq, decTrue, nstr2, nbl, nrdB, ← hθ, Θ, stdP, std, cmpI, ari, shf, una, mxI, nw64, nw8, nshr, nshl, nbyte, nmx, nmn, nrd, n_T36, n_T38, decide_eq_true_eq, decide_eq_false_iff_not, beq_iff_eq, bne_iff_ne, beq_eq_false_iff_ne, bne_eq_false_iff_eq, ne_eq, Bool.not_eq_true', Bool.not_eq_false', Bool.not_eq_true, Bool.not_eq_false, Bool.and_eq_true, gt_iff_lt, ge_iff_le, Int.not_lt, Int.not_le] at heq)) <;> first | (exfalso; (try clear hac); (try clear hQl0); (try simp only [ncast, List.length_replicate] at *); omega) | (exfalso; rw [heq] at hc; cases hc; done) | (exfalso; exact absurd hc heq) | (exfalso; exact absurd heq hc) | (exfalso; (try clear hac); (try clear hQl0); simp_all; done) | (try cbv))
  iterate 3 all_goals repeat' first
    | with_reducible refine sub_of0 ?_ rfl
    | with_reducible apply sub_of1
    | with_reducible apply sub_of2
    | with_reducible apply sub_of3
    | with_reducible exact esle_nil
    | ((with_reducible apply esle_c); · first | rfl | exact rfl)
    | ((with_reducible apply esle_a); · first | rfl | exact rfl)
    | with_reducible exact bsle_nil
    | with_reducible refine bsle_cons ?_ ?_
    | with_reducible exact dts_nil
    | with_reducible refine dts_cons ?_ ?_
    | with_reducible refine tle_int ?_
    | with_reducible refine tle_bool ?_
    | with_reducible refine tle_str ?_
    | ((with_reducible apply tle_own); · first | rfl | exact rfl)
    | ((with_reducible apply tle_nilown); · first | rfl | exact rfl)
    | with_reducible refine tle_sl ?_ ?_
    | with_reducible refine tle_nil ?_
    | ((with_reducible apply tle_ownd); rotate_left; · first | rfl | exact rfl; rotate_right)
    | ((with_reducible apply ble_vec); · first | rfl | exact rfl; · exact fun h => h)
    | with_reducible refine ble_none ?_
    | with_reducible refine dt_int ?_
    | with_reducible refine dt_bool ?_
    | with_reducible refine dt_str ?_
    | with_reducible refine dt_sl ?_ ?_
    | with_reducible refine dt_nil ?_
    | with_reducible exact nth_ne rfl
    | ((with_reducible apply nth_ne); exact rfl)
    | (intro i hi; exact ⟨_, rfl⟩)
    | (intro i hi j hj; first | rfl | ((obtain rfl : j = 0 := by omega); first | exact plit1 hθ _ _ _ hi | exact papp1 hθ _ _ _ _ (by first | exact hi | (simp only [← hθ, Θ, stdP, std] at hi; (try clear hac); (try clear hQl0); (try simp only [ncast, List.length_replicate] at *); omega)) | ((try rw [pset hθ]); (try rw [psetz hθ]); (try rw [papp hθ]); (try rw [pover hθ]); (try rw [pover1 hθ]); (try rw [poverz hθ _ _ _ _ _ rfl]); (simp only [Int.zero_sub, condEq, decTrue, nstr2, nbl, nrdB, ← hθ, Θ, stdP, std, cmpI, ari, shf, una, mxI, nw64, nw8, nshr, nshl, nbyte, nmx, nmn, nrd, n_T36, n_T38, repD, repDB, condSelf] at hi ⊢); first | done | rfl | (refine scC ?_; first | rfl | exact setD _ _ _ _ (by (try clear hac); (try clear hQl0); (try simp only [ncast, List.length_replicate] at *); omega) | exact setDz _ _ _ _ (by (try clear hac); (try clear hQl0); (try simp only [ncast, List.length_replicate] at *); omega) | exact appD _ _ _ | exact padD _ _ _ | exact nbo _ _) | (refine scB ?_; first | rfl | exact setDB _ _ _ _ (by (try clear hac); (try clear hQl0); (try simp only [ncast, List.length_replicate] at *); omega) | exact setDBz _ _ _ _ (by (try clear hac); (try clear hQl0); (try simp only [ncast, List.length_replicate] at *); omega)) | fail)))
    | rfl
    | (simp only [Int.zero_sub, condEq, decTrue, nstr2, nbl, nrdB, ← hθ, Θ, stdP, std, cmpI, ari, shf, una, mxI, nw64, nw8, nshr, nshl, nbyte, nmx, nmn, nrd, n_T36, n_T38]; done)
    | ((try simp only [Int.zero_sub, condEq, decTrue, nstr2, nbl, nrdB, ← hθ, Θ, stdP, std, cmpI, ari, shf, una, mxI, nw64, nw8, nshr, nshl, nbyte, nmx, nmn, nrd, n_T36, n_T38, true_and, and_true]); (try clear hac); (try clear hQl0); (try simp only [ncast] at *); first | trivial | omega | (refine ⟨?_, ?_⟩ <;> omega) | (refine ⟨?_, ?_, ?_, ?_⟩ <;> omega) | (simp; done) | (simp; omega) | fail)
theorem words_own.l0_s {r : List Int} : ∀ {k : Nat} {x5 : List Int} {x14 : List Int} {x15 : Int} {x16 : Int}, words_own.l0 k x5 x14 x15 x16 = some r → ∃ q, q < k ∧ (if x16 < x15 then (if 0 ≤ x16 then (if x16 < (x14.length : Int) then (if x16 < (x5.length : Int) then (words_own.l0 q (x5.set (x16 : Int).toNat (rd x14 x16)) x14 x15 (wrap64 (x16 + 1))) else (none)) else (none)) else (none)) else (some x5)) = some r
  | 0, _, _, _, _, h => by cases h
  | k + 1, _, _, _, _, h => ⟨k, Nat.lt_succ_self k, h⟩
set_option maxHeartbeats 4000000 in
theorem ac_words_own {k : Nat} {l0 : List Int} {a1 : Int} {r : List Int} (h : words_own.f k l0 a1 = some r) : AC Tryd.prog N0 G0 52 [] [.c (.d (eI Θ .u64 l0)), .c (.d (.sc (.int .i64 a1)))] [bI Θ .u64 48 r] (.c (.own 0 (Θ.len r))) := by
  refine ac_mk Tryd.func52 rfl (by decide) rfl ?_
  generalize hθ : Θ = θ
  rw [words_own.f] at h
  cbv
  repeat' first
    | ((with_reducible refine pre_and ?_ ?_); rotate_left; (try cbv))
    | with_reducible exact noneO h
    | ((with_reducible replace h := iteO h); rcases h with ⟨hc, h⟩ | ⟨hc, h⟩ <;> (try simp only [decide_eq_true_eq, decide_eq_false_iff_not, beq_iff_eq, bne_iff_ne, beq_eq_false_iff_ne, bne_eq_false_iff_eq, ne_eq, Bool.not_eq_true', Bool.not_eq_false', Bool.not_eq_true, Bool.not_eq_false, Bool.and_eq_true, gt_iff_lt, ge_iff_le, Int.not_lt, Int.not_le] at hc))
    | with_reducible replace h := someB h
    | with_reducible refine hQl0 _ _ _ (by omega) ⟨_, _, _, _, h, rfl⟩ ?_
    | ((with_reducible refine loopI hθ (fun k s => ∃ (x5 : List Int) (x14 : List Int) (x15 : Int) (x16 : Int), words_own.l0 k x5 x14 x15 x16 = some r ∧ s = ⟨envL [(5, .c (.own 0 (θ.len x5))), (14, .c (.d (eI θ .u64 x14))), (15, .c (.d (.sc (.int .i64 x15)))), (16, .c (.d (.sc (.int .i64 x16))))], arOf [bI θ .u64 48 x5], 1, 27, 0⟩) ⟨_, _, _, _, h, rfl⟩ ?_ ?_); rotate_left; (rintro m _ Ql0 hm ⟨x5, x14, x15, x16, h, rfl⟩ hQl0; replace h := words_own.l0_s h; obtain ⟨k, hk, h⟩ := h; cbv))
    | ((with_reducible replace h := Option.some.inj h); subst h; simp only [← hθ, Θ, stdP, std]; apply exp_of1)
    | (split <;> (try (rename_i heq; simp only [Int.zero_sub, condEq, decTrue, nstr2, nbl, nrdB, ← hθ, Θ, stdP, std, cmpI, ari, shf, una, mxI, nw64, nw8, nshr, nshl, nbyte, nmx, nmn, nrd, n_T36, n_T38, decide_eq_true_eq, decide_eq_false_iff_not, beq_iff_eq, bne_iff_ne, beq_eq_false_iff_ne, bne_eq_false_iff_eq, ne_eq, Bool.not_eq_true', Bool.not_eq_false', Bool.not_eq_true, Bool.not_eq_false, Bool.and_eq_true, gt_iff_lt, ge_iff_le, Int.not_lt, Int.not_le] at heq)) <;> first | (exfalso; (try clear hac); (try clear hQl0); (try simp only [ncast, List.length_replicate] at *); omega) | (exfalso; rw [heq] at hc; cases hc; done) | (exfalso; exact absurd hc heq) | (exfalso; exact absurd heq hc) | (exfalso; (try clear hac); (try clear hQl0); simp_all; done) | (try cbv))
  iterate 3 all_goals repeat' first
    | with_reducible refine sub_of0 ?_ rfl
    | with_reducible apply sub_of1
    | with_reducible apply sub_of2
    | with_reducible apply sub_of3
    | with_reducible exact esle_nil
    | ((with_reducible apply esle_c); · first | rfl | exact rfl)
    | ((with_reducible apply esle_a); · first | rfl | exact rfl)
    | with_reducible exact bsle_nil
    | with_reducible refine bsle_cons ?_ ?_
    | with_reducible exact dts_nil
    | with_reducible refine dts_cons ?_ ?_
    | with_reducible refine tle_int ?_
    | with_reducible refine tle_bool ?_
    | with_reducible refine tle_str ?_
    | ((with_reducible apply tle_own); · first | rfl | exact rfl)
    | ((with_reducible apply tle_nilown); · first | rfl | exact rfl)
    | with_reducible refine tle_sl ?_ ?_
    | with_reducible refine tle_nil ?_
    | ((with_reducible apply tle_ownd); rotate_left; · first | rfl | exact rfl; rotate_right)
    | ((with_reducible apply ble_vec); · first | rfl | exact rfl; · exact fun h => h)
    | with_reducible refine ble_none ?_
    | with_reducible refine dt_int ?_
    | with_reducible refine dt_bool ?_
    | with_reducible refine dt_str ?_
    | with_reducible refine dt_sl ?_ ?_
    | with_reducible refine dt_nil ?_
    | with_reducible exact nth_ne rfl
    | ((with_reducible apply nth_ne); exact rfl)
    | (intro i hi; exact ⟨_, rfl⟩)
    | (intro i hi j hj; first | rfl | ((obtain rfl : j = 0 := by omega); first | exact plit1 hθ _ _ _ hi | exact papp1 hθ _ _ _ _ (by first | exact hi | (simp only [← hθ, Θ, stdP, std] at hi; (try clear hac); (try clear hQl0); (try simp only [ncast, List.length_replicate] at *); omega)) | ((try rw [pset hθ]); (try rw [psetz hθ]); (try rw [papp hθ]); (try rw [pover hθ]); (try rw [pover1 hθ]); (try rw [poverz hθ _ _ _ _ _ rfl]); (simp only [Int.zero_sub, condEq, decTrue, nstr2, nbl, nrdB, ← hθ, Θ, stdP, std, cmpI, ari, shf, una, mxI, nw64, nw8, nshr, nshl, nbyte, nmx, nmn, nrd, n_T36, n_T38, repD, repDB, condSelf] at hi ⊢); first | done | rfl | (refine scC ?_; first | rfl | exact setD _ _ _ _ (by (try clear hac); (try clear hQl0); (try simp only [ncast, List.length_replicate] at *); omega) | exact setDz _ _ _ _ (by (try clear hac); (try clear hQl0); (try simp only [ncast, List.length_replicate] at *); omega) | exact appD _ _ _ | exact padD _ _ _ | exact nbo _ _) | (refine scB ?_; first | rfl | exact setDB _ _ _ _ (by (try clear hac); (try clear hQl0); (try simp only [ncast, List.length_replicate] at *); omega) | exact setDBz _ _ _ _ (by (try clear hac); (try clear hQl0); (try simp only [ncast, List.length_replicate] at *); omega)) | fail)))
    | rfl
    | (simp only [Int.zero_sub, condEq, decTrue, nstr2, nbl, nrdB, ← hθ, Θ, stdP, std, cmpI, ari, shf, una, mxI, nw64, nw8, nshr, nshl, nbyte, nmx, nmn, nrd, n_T36, n_T38]; done)
    | ((try simp only [Int.zero_sub, condEq, decTrue, nstr2, nbl, nrdB, ← hθ, Θ, stdP, std, cmpI, ari, shf, una, mxI, nw64, nw8, nshr, nshl, nbyte, nmx, nmn, nrd, n_T36, n_T38, true_and, and_true]); (try clear hac); (try clear hQl0); (try simp only [ncast] at *); first | trivial | omega | (refine ⟨?_, ?_⟩ <;> omega) | (refine ⟨?_, ?_, ?_, ?_⟩ <;> omega) | (simp; done) | (simp; omega) | fail)
theorem words_Xor.l0_s {r : List Int} : ∀ {k : Nat} {x5 : List Int} {x12 : List Int} {x13 : Int} {x14 : Int}, words_Xor.l0 k x5 x12 x13 x14 = some r → ∃ q, q < k ∧ (if x14 < x13 then (if 0 ≤ x14 then (if x14 < (x12.length : Int) then (if x14 < (x5.length : Int) then (words_Xor.l0 q (x5.set (x14 : Int).toNat (Go.bits .xor .u64 (rd x5 x14) (rd x12 x14))) x12 x13 (wrap64 (x14 + 1))) else (none)) else (none)) else (none)) else (some x5)) = some r
  | 0, _, _, _, _, h => by cases h
  | k + 1, _, _, _, _, h => ⟨k, Nat.lt_succ_self k, h⟩
set_option maxHeartbeats 4000000 in
theorem ac_words_Xor {k : Nat} {l0 : List Int} {l1 : List Int} {r : List Int} (h : words_Xor.f k l0 l1 = some r) : AC Tryd.prog N0 G0 36 [] [.c (.d (eI Θ .u64 l0)), .c (.d (eI Θ .u64 l1))] [bI Θ .u64 48 r] (.c (.own 0 (Θ.len r))) := by
  refine ac_mk Tryd.func36 rfl (by decide) rfl ?_
  generalize hθ : Θ = θ
  rw [words_Xor.f] at h
  cbv
  repeat' first
    | ((with_reducible refine pre_and ?_ ?_); rotate_left; (try cbv))
    | with_reducible exact noneO h
    | ((with_reducible replace h := iteO h); rcases h with ⟨hc, h⟩ | ⟨hc, h⟩ <;> (try simp only [decide_eq_true_eq, decide_eq_false_iff_not, beq_iff_eq, bne_iff_ne, beq_eq_false_iff_ne, bne_eq_false_iff_eq, ne_eq, Bool.not_eq_true', Bool.not_eq_false', Bool.not_eq_true, Bool.not_eq_false, Bool.and_eq_true, gt_iff_lt, ge_iff_le, Int.not_lt, Int.not_le] at hc))
    | with_reducible replace h := someB h
    | ((with_reducible replace h := bindO h); obtain ⟨t, ht, h⟩ := h; have hac := ac_words_own ht; (try rw [hθ] at hac); refine call_rule' hθ hac rfl rfl ?_ rfl ?_; clear hac; rotate_left; (try cbv))
    | with_reducible refine hQl0 _ _ _ (by omega) ⟨_, _, _, _, h, rfl⟩ ?_
    | ((with_reducible refine loopI hθ (fun k s => ∃ (x5 : List Int) (x12 : List Int) (x13 : Int) (x14 : Int), words_Xor.l0 k x5 x12 x13 x14 = some r ∧ s = ⟨envL [(5, .c (.own 0 (θ.len x5))), (12, .c (.d (eI θ .u64 x12))), (13, .c (.d (.sc (.int .i64 x13)))), (14, .c (.d (.sc (.int .i64 x14))))], arOf [bI θ .u64 48 x5], 1, 28, 0⟩) ⟨_, _, _, _, h, rfl⟩ ?_ ?_); rotate_left; (rintro m _ Ql0 hm ⟨x5, x12, x13, x14, h, rfl⟩ hQl0; replace h := words_Xor.l0_s h; obtain ⟨k, hk, h⟩ := h; cbv))
    | ((with_reducible replace h := Option.some.inj h); subst h; simp only [← hθ, Θ, stdP, std]; apply exp_of1)
    | (split <;> (try (rename_i heq; simp only [Int.zero_sub, condEq, decTrue, nstr2, nbl, nrdB, ← hθ, Θ, stdP, std, cmpI, ari, shf, una, mxI, nw64, nw8, nshr, nshl, nbyte, nmx, nmn, nrd, n_T36, n_T38, decide_eq_true_eq, decide_eq_false_iff_not, beq_iff_eq, bne_iff_ne, beq_eq_false_iff_ne, bne_eq_false_iff_eq, ne_eq, Bool.not_eq_true', Bool.not_eq_false', Bool.not_eq_true, Bool.not_eq_false, Bool.and_eq_true, gt_iff_lt, ge_iff_le, Int.not_lt, Int.not_le] at heq)) <;> first | (exfalso; (try clear hac); (try clear hQl0); (try simp only [ncast, List.length_replicate] at *); omega) | (exfalso; rw [heq] at hc; cases hc; done) | (exfalso; exact absurd hc heq) | (exfalso; exact absurd heq hc) | (exfalso; (try clear hac); (try clear hQl0); simp_all; done) | (try cbv))
  iterate 3 all_goals repeat' first
    | with_reducible refine sub_of0 ?_ rfl
    | with_reducible apply sub_of1
    | with_reducible apply sub_of2
    | with_reducible apply sub_of3
    | with_reducible exact esle_nil
    | ((with_reducible apply esle_c); · first | rfl | exact rfl)
    | ((with_reducible apply esle_a); · first | rfl | exact rfl)
    | with_reducible exact bsle_nil
    | with_reducible refine bsle_cons ?_ ?_
    | with_reducible exact dts_nil
    | with_reducible refine dts_cons ?_ ?_
    | with_reducible refine tle_int ?_
    | with_reducible refine tle_bool ?_
    | with_reducible refine tle_str ?_
    | ((with_reducible apply tle_own); · first | rfl | exact rfl)
    | ((with_reducible apply tle_nilown); · first | rfl | exact rfl)
    | with_reducible refine tle_sl ?_ ?_
    | with_reducible refine tle_nil ?_
    | ((with_reducible apply tle_ownd); rotate_left; · first | rfl | exact rfl; rotate_right)
    | ((with_reducible apply ble_vec); · first | rfl | exact rfl; · exact fun h => h)
    | with_reducible refine ble_none ?_
    | with_reducible refine dt_int ?_
    | with_reducible refine dt_bool ?_
    | with_reducible refine dt_str ?_
    | with_reducible refine dt_sl ?_ ?_
    | with_reducible refine dt_nil ?_
    | with_reducible exact nth_ne rfl
    | ((with_reducible apply nth_ne); exact rfl)
    | (intro i hi; exact ⟨_, rfl⟩)
    | (intro i hi j hj; first | rfl | ((obtain rfl : j = 0 := by omega); first | exact plit1 hθ _ _ _ hi | exact papp1 hθ _ _ _ _ (by first | exact hi | (simp only [← hθ, Θ, stdP, std] at hi; (try clear hac); (try clear hQl0); (try simp only [ncast, List.length_replicate] at *); omega)) | ((try rw [pset hθ]); (try rw [psetz hθ]); (try rw [papp hθ]); (try rw [pover hθ]); (try rw [pover1 hθ]); (try rw [poverz hθ _ _ _ _ _ rfl]); (simp only [Int.zero_sub, condEq, decTrue, nstr2, nbl, nrdB, ← hθ, Θ, stdP, std, cmpI, ari, shf, una, mxI, nw64, nw8, nshr, nshl, nbyte, nmx, nmn, nrd, n_T36, n_T38, repD, repDB, condSelf] at hi ⊢); first | done | rfl | (refine scC ?_; first | rfl | exact setD _ _ _ _ (by (try clear hac); (try clear hQl0); (try simp only [ncast, List.length_replicate] at *); omega) | exact setDz _ _ _ _ (by (try clear hac); (try clear hQl0); (try simp only [ncast, List.length_replicate] at *); omega) | exact appD _ _ _ | exact padD _ _ _ | exact nbo _ _) | (refine scB ?_; first | rfl | exact setDB _ _ _ _ (by (try clear hac); (try clear hQl0); (try simp only [ncast, List.length_replicate] at *); omega) | exact setDBz _ _ _ _ (by (try clear hac); (try clear hQl0); (try simp only [ncast, List.length_replicate] at *); omega)) | fail)))
    | rfl
    | (simp only [Int.zero_sub, condEq, decTrue, nstr2, nbl, nrdB, ← hθ, Θ, stdP, std, cmpI, ari, shf, una, mxI, nw64, nw8, nshr, nshl, nbyte, nmx, nmn, nrd, n_T36, n_T38]; done)
    | ((try simp only [Int.zero_sub, condEq, decTrue, nstr2, nbl, nrdB, ← hθ, Θ, stdP, std, cmpI, ari, shf, una, mxI, nw64, nw8, nshr, nshl, nbyte, nmx, nmn, nrd, n_T36, n_T38, true_and, and_true]); (try clear hac); (try clear hQl0); (try simp only [ncast] at *); first | trivial | omega | (refine ⟨?_, ?_⟩ <;> omega) | (refine ⟨?_, ?_, ?_, ?_⟩ <;> omega) | (simp; done) | (simp; omega) | fail)
theorem recode_Choose.j2_s {r : List Int} : ∀ {k : Nat} {x7 : Int} {x9 : List Bool}, recode_Choose.j2 k x7 x9 = some r → ∃ q, q < k ∧ (if 0 ≤ 35184372088832 then (recode_Choose.l2 q x9 (List.replicate 0 0) x7 0) else (none)) = some r
  | 0, _, _, h => by cases h
  | k + 1, _, _, h => ⟨k, Nat.lt_succ_self k, h⟩
theorem recode_Choose.l0_s {r : List Int} : ∀ {k : Nat} {x0 : List (S36)} {x2 : Int} {x7 : Int} {x9 : List Bool} {x10 : List Int} {x11 : Int}, recode_Choose.l0 k x0 x2 x7 x9 x10 x11 = some r → ∃ q, q < k ∧ (if x11 < 32 then ((words_Count.f q x10).bind fun t118 => ((recode_far.f t118 x2).bind fun t119 => (recode_Choose.l1 q x0 x2 x7 x9 x10 x11 (-1) t119 x0 (x0.length : Int) 0))) else (recode_Choose.j2 q x7 x9)) = some r
  | 0, _, _, _, _, _, _, h => by cases h
  | k + 1, _, _, _, _, _, _, h => ⟨k, Nat.lt_succ_self k, h⟩
theorem recode_Choose.l1_s {r : List Int} : ∀ {k : Nat} {x0 : List (S36)} {x2 : Int} {x7 : Int} {x9 : List Bool} {x10 : List Int} {x11 : Int} {x12 : Int} {x13 : Int} {x51 : List (S36)} {x52 : Int} {x53 : Int}, recode_Choose.l1 k x0 x2 x7 x9 x10 x11 x12 x13 x51 x52 x53 = some r → ∃ q, q < k ∧ (if x53 < x52 then (if 0 ≤ x53 then (if x53 < (x51.length : Int) then (if x53 < (x9.length : Int) then (if rdOf false x9 x53 = true then (recode_Choose.l1 q x0 x2 x7 x9 x10 x11 x12 x13 x51 x52 (wrap64 (x53 + 1))) else ((words_Xor.f q x10 ((rd_T36 x51 x53).f0)).bind fun t127 => ((words_Count.f q t127).bind fun t130 => (if t130 > 0 then ((recode_far.f t130 x2).bind fun t131 => (if t131 < x13 then ((recode_far.f t130 x2).bind fun t132 => (recode_Choose.l1 q x0 x2 x7 x9 x10 x11 x53 t132 x51 x52 (wrap64 (x53 + 1)))) else (recode_Choose.l1 q x0 x2 x7 x9 x10 x11 x12 x13 x51 x52 (wrap64 (x53 + 1))))) else (recode_Choose.l1 q x0 x2 x7 x9 x10 x11 x12 x13 x51 x52 (wrap64 (x53 + 1))))))) else (none)) else (none)) else (none)) else (if x12 < 0 then (recode_Choose.j2 q x7 x9) else (if 0 ≤ x12 then (if x12 < (x9.length : Int) then (if x12 < (x0.length : Int) then ((words_Xor.f q x10 ((rd_T36 x0 x12).f0)).bind fun t122 => (recode_Choose.l0 q x0 x2 x7 (x9.set (x12 : Int).toNat true) t122 (wrap64 (x11 + 1)))) else (none)) else (none)) else (none)))) = some r
  | 0, _, _, _, _, _, _, _, _, _, _, _, h => by cases h
  | k + 1, _, _, _, _, _, _, _, _, _, _, _, h => ⟨k, Nat.lt_succ_self k, h⟩
theorem recode_Choose.l2_s {r : List Int} : ∀ {k : Nat} {x9 : List Bool} {x17 : List Int} {x98 : Int} {x99 : Int}, recode_Choose.l2 k x9 x17 x98 x99 = some r → ∃ q, q < k ∧ (if x99 < x98 then (if 0 ≤ x99 then (if x99 < (x9.length : Int) then (if rdOf false x9 x99 = true then (if x17.length < 17592186044416 then (recode_Choose.l2 q x9 (x17 ++ [x99]) x98 (wrap64 (x99 + 1))) else (none)) else (recode_Choose.l2 q x9 x17 x98 (wrap64 (x99 + 1)))) else (none)) else (none)) else (some x17)) = some r
  | 0, _, _, _, _, h => by cases h
  | k + 1, _, _, _, _, h => ⟨k, Nat.lt_succ_self k, h⟩
set_option maxHeartbeats 4000000 in
theorem ac_recode_Choose {k : Nat} {l0 : List (S36)} {a1 : Int} {a2 : Int} {r : List Int} (h : recode_Choose.f k l0 a1 a2 = some r) : AC Tryd.prog N0 G0 15 [] [.c (.d (est_36 Θ l0)), .c (.d (.sc (.int .i64 a1))), .c (.d (.sc (.int .i64 a2)))] [bI Θ .i64 3 r] (.c (.own 0 (Θ.len r))) := by
  refine ac_mk Tryd.func15 rfl (by decide) rfl ?_
  generalize hθ : Θ = θ
  rw [recode_Choose.f] at h
  cbv
  repeat' first
    | ((with_reducible refine pre_and ?_ ?_); rotate_left; (try cbv))
    | with_reducible exact noneO h
    | ((with_reducible replace h := iteO h); rcases h with ⟨hc, h⟩ | ⟨hc, h⟩ <;> (try simp only [decide_eq_true_eq, decide_eq_false_iff_not, beq_iff_eq, bne_iff_ne, beq_eq_false_iff_ne, bne_eq_false_iff_eq, ne_eq, Bool.not_eq_true', Bool.not_eq_false', Bool.not_eq_true, Bool.not_eq_false, Bool.and_eq_true, gt_iff_lt, ge_iff_le, Int.not_lt, Int.not_le] at hc))
    | with_reducible replace h := someB h
    | ((with_reducible replace h := recode_Choose.j2_s h); obtain ⟨k, hk, h⟩ := h)
    | ((with_reducible replace h := bindO h); obtain ⟨t, ht, h⟩ := h; have hac := ac_words_Count ht; (try rw [hθ] at hac); refine call_rule' hθ hac rfl rfl ?_ rfl ?_; clear hac; rotate_left; (try cbv))
    | ((with_reducible replace h := bindO h); obtain ⟨t, ht, h⟩ := h; have hac := ac_recode_far ht; (try rw [hθ] at hac); refine call_rule' hθ hac rfl rfl ?_ rfl ?_; clear hac; rotate_left; (try cbv))
    | ((with_reducible replace h := bindO h); obtain ⟨t, ht, h⟩ := h; have hac := ac_words_Xor ht; (try rw [hθ] at hac); refine call_rule' hθ hac rfl rfl ?_ rfl ?_; clear hac; rotate_left; (try cbv))
    | with_reducible refine hQl0 _ _ _ (by omega) ⟨(fun i => bif decide (i = x11.toNat) then x12 else ch i), _, _, _, _, _, _, h, (by (try unfold wrap64); (try simp only [ncast] at *); omega), rfl⟩ ?_
    | ((with_reducible refine loopI hθ (fun k s => ∃ (ch : Nat → Int) (x0 : List (S36)) (x2 : Int) (x7 : Int) (x9 : List Bool) (x10 : List Int) (x11 : Int), recode_Choose.l0 k x0 x2 x7 x9 x10 x11 = some r ∧ (0 ≤ x11 ∧ x11 ≤ 32) ∧ s = ⟨envL [(0, .c (.d (est_36 θ x0))), (2, .c (.d (.sc (.int .i64 x2)))), (7, .c (.d (.sc (.int .i64 x7)))), (9, .c (.own 1 (θ.len x9))), (10, .c (.d (eI θ .u64 x10))), (11, .c (.d (.sc (.int .i64 x11)))), (8, .c (.vptr 0 0 0))], arOf [Blk.vec 32 54 1 (fun i _ => .sc (.int .i64 (ch i))) true true, bB θ 4 x9], 2, 112, 0⟩) ⟨(fun i => bif decide (i = (0 : Int).toNat) then (Int.tmod (wrap64 ((Int.tmod a1 (l0.length : Int)) + (l0.length : Int))) (l0.length : Int)) else 0), _, _, _, _, _, _, h, (by (try unfold wrap64); (try simp only [ncast] at *); omega), rfl⟩ ?_ ?_); rotate_left; (rintro m _ Ql0 hm ⟨ch, x0, x2, x7, x9, x10, x11, h, hinv, rfl⟩ hQl0; replace h := recode_Choose.l0_s h; obtain ⟨k, hk, h⟩ := h; cbv))
    | with_reducible refine hQl1 _ _ _ (by omega) ⟨ch, _, _, _, _, _, _, _, _, _, _, _, h, (by (try unfold wrap64); (try simp only [ncast] at *); omega), rfl⟩ ?_
    | ((with_reducible refine loopI hθ (fun k s => ∃ (ch : Nat → Int) (x0 : List (S36)) (x2 : Int) (x7 : Int) (x9 : List Bool) (x10 : List Int) (x11 : Int) (x12 : Int) (x13 : Int) (x51 : List (S36)) (x52 : Int) (x53 : Int), recode_Choose.l1 k x0 x2 x7 x9 x10 x11 x12 x13 x51 x52 x53 = some r ∧ (0 ≤ x11 ∧ x11 < 32) ∧ s = ⟨envL [(0, .c (.d (est_36 θ x0))), (2, .c (.d (.sc (.int .i64 x2)))), (7, .c (.d (.sc (.int .i64 x7)))), (9, .c (.own 1 (θ.len x9))), (10, .c (.d (eI θ .u64 x10))), (11, .c (.d (.sc (.int .i64 x11)))), (12, .c (.d (.sc (.int .i64 x12)))), (13, .c (.d (.sc (.int .i64 x13)))), (51, .c (.d (est_36 θ x51))), (52, .c (.d (.sc (.int .i64 x52)))), (53, .c (.d (.sc (.int .i64 x53)))), (8, .c (.vptr 0 0 0))], arOf [Blk.vec 32 54 1 (fun i _ => .sc (.int .i64 (ch i))) true true, bB θ 4 x9], 2, 112, 0⟩) ⟨ch, _, _, _, _, _, _, _, _, _, _, _, h, (by (try unfold wrap64); (try simp only [ncast] at *); omega), rfl⟩ ?_ ?_); rotate_left; (rintro m _ Ql1 hm ⟨ch, x0, x2, x7, x9, x10, x11, x12, x13, x51, x52, x53, h, hinv, rfl⟩ hQl1; replace h := recode_Choose.l1_s h; obtain ⟨k, hk, h⟩ := h; cbv))
    | with_reducible refine hQl2 _ _ _ (by omega) ⟨_, _, _, _, h, rfl⟩ ?_
    | ((with_reducible refine loopI hθ (fun k s => ∃ (x9 : List Bool) (x17 : List Int) (x98 : Int) (x99 : Int), recode_Choose.l2 k x9 x17 x98 x99 = some r ∧ s = ⟨envL [(9, .c (.own 0 (θ.len x9))), (17, .c (.own 1 (θ.len x17))), (98, .c (.d (.sc (.int .i64 x98)))), (99, .c (.d (.sc (.int .i64 x99))))], arOf [bB θ 4 x9, bI θ .i64 3 x17], 2, 112, 0⟩) ⟨_, _, _, _, h, rfl⟩ ?_ ?_); rotate_left; (rintro m _ Ql2 hm ⟨x9, x17, x98, x99, h, rfl⟩ hQl2; replace h := recode_Choose.l2_s h; obtain ⟨k, hk, h⟩ := h; cbv))
    | ((with_reducible replace h := Option.some.inj h); subst h; simp only [← hθ, Θ, stdP, std]; apply exp_of1)
    | (split <;> (try (rename_i heq; simp only [Int.zero_sub, condEq, decTrue, nstr2, nbl, nrdB, ← hθ, Θ, stdP, std, cmpI, ari, shf, una, mxI, nw64, nw8, nshr, nshl, nbyte, nmx, nmn, nrd, n_T36, n_T38, decide_eq_true_eq, decide_eq_false_iff_not, beq_iff_eq, bne_iff_ne, beq_eq_false_iff_ne, bne_eq_false_iff_eq, ne_eq, Bool.not_eq_true', Bool.not_eq_false', Bool.not_eq_true, Bool.not_eq_false, Bool.and_eq_true, gt_iff_lt, ge_iff_le, Int.not_lt, Int.not_le] at heq)) <;> first | (exfalso; (try clear hac); (try clear hQl0); (try clear hQl1); (try clear hQl2); (try simp only [ncast, List.length_replicate] at *); omega) | (exfalso; rw [heq] at hc; cases hc; done) | (exfalso; exact absurd hc heq) | (exfalso; exact absurd heq hc) | (exfalso; (try clear hac); (try clear hQl0); (try clear hQl1); (try clear hQl2); simp_all; done) | (try cbv))
  iterate 3 all_goals repeat' first
    | with_reducible refine sub_of0 ?_ rfl
    | with_reducible apply sub_of1
    | with_reducible apply sub_of2
    | with_reducible apply sub_of3
    | with_reducible exact esle_nil
    | ((with_reducible apply esle_c); · first | rfl | exact rfl)
    | ((with_reducible apply esle_a); · first | rfl | exact rfl)
    | with_reducible exact bsle_nil
    | with_reducible refine bsle_cons ?_ ?_
    | with_reducible exact dts_nil
    | with_reducible refine dts_cons ?_ ?_
    | with_reducible refine tle_int ?_
    | with_reducible refine tle_bool ?_
    | with_reducible refine tle_str ?_
    | ((with_reducible apply tle_own); · first | rfl | exact rfl)
    | ((with_reducible apply tle_nilown); · first | rfl | exact rfl)
    | with_reducible refine tle_sl ?_ ?_
    | with_reducible refine tle_nil ?_
    | ((with_reducible apply tle_ownd); rotate_left; · first | rfl | exact rfl; rotate_right)
    | with_reducible refine tle_agg ?_
    | with_reducible refine tle_tup ?_
    | with_reducible exact csle_nil
    | with_reducible refine csle_cons ?_ ?_
    | with_reducible exact tsle_nil
    | with_reducible refine tsle_cons ?_ ?_
    | with_reducible refine cle_int ?_
    | with_reducible refine cle_bool ?_
    | with_reducible refine cle_str ?_
    | ((with_reducible apply cle_own); · first | rfl | exact rfl)
    | ((with_reducible apply cle_nilown); · first | rfl | exact rfl)
    | with_reducible refine cle_sl ?_ ?_
    | with_reducible refine cle_nil ?_
    | ((with_reducible apply cle_ownd); rotate_left; · first | rfl | exact rfl; rotate_right)
    | with_reducible exact cle_rfl
    | ((with_reducible apply ble_vec); · first | rfl | exact rfl; · exact fun h => h)
    | with_reducible refine ble_none ?_
    | ((with_reducible apply ble_box); · first | rfl | exact rfl)
    | ((with_reducible apply tle_ptr); · first | rfl | exact rfl)
    | ((with_reducible apply tle_vptr); · first | rfl | exact rfl)
    | with_reducible exact ble_dead
    | ((with_reducible apply cle_ptr); · first | rfl | exact rfl)
    | with_reducible exact cle_junk
    | with_reducible refine dt_int ?_
    | with_reducible refine dt_bool ?_
    | with_reducible refine dt_str ?_
    | with_reducible refine dt_sl ?_ ?_
    | with_reducible refine dt_nil ?_
    | with_reducible refine dt_agg ?_
    | with_reducible exact dcs_nil
    | with_reducible refine dcs_cons ?_ ?_
    | with_reducible exact dcs_mapn
    | with_reducible refine dcs_mapc ?_ ?_
    | with_reducible exact dl_rfl
    | with_reducible refine dl_int ?_
    | with_reducible refine dl_bool ?_
    | with_reducible refine dl_str ?_
    | with_reducible refine dl_sl ?_ ?_
    | with_reducible refine dl_nil ?_
    | with_reducible exact nth_ne rfl
    | ((with_reducible apply nth_ne); exact rfl)
    | (intro i hi; exact ⟨_, rfl⟩)
    | (intro i hi j hj; first | rfl | ((obtain rfl : j = 0 := by omega); first | exact plit1 hθ _ _ _ hi | exact papp1 hθ _ _ _ _ (by first | exact hi | (simp only [← hθ, Θ, stdP, std] at hi; (try clear hac); (try clear hQl0); (try clear hQl1); (try clear hQl2); (try simp only [ncast, List.length_replicate] at *); omega)) | ((try rw [pset hθ]); (try rw [psetz hθ]); (try rw [papp hθ]); (try rw [pover hθ]); (try rw [pover1 hθ]); (try rw [poverz hθ _ _ _ _ _ rfl]); (try rw [psetb hθ]); (try rw [psetbz hθ]); (try rw [poverzb hθ _ _ _ _ rfl]); (simp only [Int.zero_sub, condEq, decTrue, nstr2, nbl, nrdB, ← hθ, Θ, stdP, std, cmpI, ari, shf, una, mxI, nw64, nw8, nshr, nshl, nbyte, nmx, nmn, nrd, n_T36, n_T38, repD, repDB, condSelf] at hi ⊢); first | done | rfl | (refine scC ?_; first | rfl | exact setD _ _ _ _ (by (try clear hac); (try clear hQl0); (try clear hQl1); (try clear hQl2); (try simp only [ncast, List.length_replicate] at *); omega) | exact setDz _ _ _ _ (by (try clear hac); (try clear hQl0); (try clear hQl1); (try clear hQl2); (try simp only [ncast, List.length_replicate] at *); omega) | exact appD _ _ _ | exact padD _ _ _ | exact nbo _ _) | (refine scB ?_; first | rfl | exact setDB _ _ _ _ (by (try clear hac); (try clear hQl0); (try clear hQl1); (try clear hQl2); (try simp only [ncast, List.length_replicate] at *); omega) | exact setDBz _ _ _ _ (by (try clear hac); (try clear hQl0); (try clear hQl1); (try clear hQl2); (try simp only [ncast, List.length_replicate] at *); omega)) | fail)))
    | rfl
    | (simp only [Int.zero_sub, condEq, decTrue, nstr2, nbl, nrdB, ← hθ, Θ, stdP, std, cmpI, ari, shf, una, mxI, nw64, nw8, nshr, nshl, nbyte, nmx, nmn, nrd, n_T36, n_T38]; done)
    | ((try simp only [Int.zero_sub, condEq, decTrue, nstr2, nbl, nrdB, ← hθ, Θ, stdP, std, cmpI, ari, shf, una, mxI, nw64, nw8, nshr, nshl, nbyte, nmx, nmn, nrd, n_T36, n_T38, true_and, and_true]); (try clear hac); (try clear hQl0); (try clear hQl1); (try clear hQl2); (try simp only [ncast] at *); first | trivial | omega | (refine ⟨?_, ?_⟩ <;> omega) | (refine ⟨?_, ?_, ?_, ?_⟩ <;> omega) | (simp; done) | (simp; omega) | fail)
end Go.Proofs.YtlpcphndgjibpaaDoor.Rx
