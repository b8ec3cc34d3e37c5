/- Written by wip/gen/tie.py: what the program's functions come to, by the plain functions of the same names. No condition. -/
import Derived.Test.YtlpcphndgjibpaaDoorZGK1
namespace Go.Proofs.YtlpcphndgjibpaaDoor.Rx
open Go Go.Proofs Go.Proofs.YtlpcphndgjibpaaDoor.P Go.RowKit Go.Proofs.YtlpcphndgjibpaaDoorW.PrintWords Go.Proofs.YtlpcphndgjibpaaDoorW.PrintLast Go.Proofs.YtlpcphndgjibpaaDoorW.PrintMore
set_option linter.unusedVariables false
set_option linter.unusedSimpArgs false
set_option maxRecDepth 100000
theorem bucketlineref01_Xor.l0_s {r : List Int} : ∀ {k : Nat} {x1 : List Int} {x5 : List Int} {x6 : Int}, bucketlineref01_Xor.l0 k x1 x5 x6 = some r → ∃ q, q < k ∧ (if x6 < (x1.length : Int) then (if 0 ≤ x6 then (if x6 < (x5.length : Int) then (bucketlineref01_Xor.l0 q x1 (x5.set (x6 : Int).toNat (Go.bits .xor .u64 (rd x5 x6) (rd x1 x6))) (wrap64 (x6 + 1))) else (none)) else (none)) else (some x5)) = some r
  | 0, _, _, _, h => by cases h
  | k + 1, _, _, _, h => ⟨k, Nat.lt_succ_self k, h⟩
theorem bucketlineref01_Xor.l100_s {r : List Int} : ∀ {k : Nat} {x1 : List Int} {x5 : List Int} {x6 : Int}, bucketlineref01_Xor.l100 k x1 x5 x6 = some r → ∃ q, q < k ∧ (if x6 < (x1.length : Int) then (if 0 ≤ x6 then (if x6 < (x5.length : Int) then (bucketlineref01_Xor.l100 q x1 (x5.set (x6 : Int).toNat (Go.bits .xor .u64 (rd x5 x6) (rd x1 x6))) (wrap64 (x6 + 1))) else (none)) else (none)) else (some x5)) = some r
  | 0, _, _, _, h => by cases h
  | k + 1, _, _, _, h => ⟨k, Nat.lt_succ_self k, h⟩
set_option maxHeartbeats 4000000 in
theorem ac_bucketlineref01_Xor {k : Nat} {l0 : List Int} {l1 : List Int} {r : List Int} (h : bucketlineref01_Xor.f k l0 l1 = some r) : AC Tryd.prog N0 G0 33 [] [.c (.d (eI Θ .u64 l0)), .c (.d (eI Θ .u64 l1))] [bI Θ .u64 48 r] (.c (.own 0 (Θ.len r))) := by
  refine ac_mk Tryd.func33 rfl (by decide) rfl ?_
  generalize hθ : Θ = θ
  rw [bucketlineref01_Xor.f] at h
  cbv
  repeat' first
    | ((with_reducible refine pre_and ?_ ?_); rotate_left; (try cbv))
    | with_reducible exact noneO h
    | ((with_reducible replace h := iteO h); rcases h with ⟨hc, h⟩ | ⟨hc, h⟩ <;> (try simp only [decide_eq_true_eq, decide_eq_false_iff_not, beq_iff_eq, bne_iff_ne, beq_eq_false_iff_ne, bne_eq_false_iff_eq, ne_eq, Bool.not_eq_true', Bool.not_eq_false', Bool.not_eq_true, Bool.not_eq_false, Bool.and_eq_true, gt_iff_lt, ge_iff_le, Int.not_lt, Int.not_le] at hc))
    | with_reducible replace h := someB h
    | with_reducible refine hQl0 _ _ _ (by omega) ⟨_, _, _, h, rfl⟩ ?_
    | ((with_reducible refine loopI hθ (fun k s => ∃ (x1 : List Int) (x5 : List Int) (x6 : Int), bucketlineref01_Xor.l0 k x1 x5 x6 = some r ∧ s = ⟨envL [(1, .c (.d (eI θ .u64 x1))), (5, .c (.own 0 (θ.len x5))), (6, .c (.d (.sc (.int .i64 x6))))], arOf [bI θ .u64 48 x5], 1, 35, 0⟩) ⟨_, _, _, h, rfl⟩ ?_ ?_); rotate_left; (rintro m _ Ql0 hm ⟨x1, x5, x6, h, rfl⟩ hQl0; replace h := bucketlineref01_Xor.l0_s h; obtain ⟨k, hk, h⟩ := h; cbv))
    | with_reducible refine hQl100 _ _ _ (by omega) ⟨_, _, _, h, rfl⟩ ?_
    | ((with_reducible refine loopI hθ (fun k s => ∃ (x1 : List Int) (x5 : List Int) (x6 : Int), bucketlineref01_Xor.l100 k x1 x5 x6 = some r ∧ s = ⟨envL [(1, .c (.d (eI θ .u64 x1))), (5, .c (.own 0 (θ.len x5))), (6, .c (.d (.sc (.int .i64 x6))))], arOf [bI θ .u64 48 x5], 1, 35, 0⟩) ⟨_, _, _, h, rfl⟩ ?_ ?_); rotate_left; (rintro m _ Ql100 hm ⟨x1, x5, x6, h, rfl⟩ hQl100; replace h := bucketlineref01_Xor.l100_s h; obtain ⟨k, hk, h⟩ := h; cbv))
    | ((with_reducible replace h := Option.some.inj h); subst h; simp only [← hθ, Θ, stdP, std]; apply exp_of1)
    | (split <;> (try (rename_i heq; simp only [Int.zero_sub, condEq, decTrue, nstr2, nbl, nrdB, ← hθ, Θ, stdP, std, cmpI, ari, shf, una, mxI, nw64, nw8, nshr, nshl, nbyte, nmx, nmn, nrd, n_T36, n_T38, decide_eq_true_eq, decide_eq_false_iff_not, beq_iff_eq, bne_iff_ne, beq_eq_false_iff_ne, bne_eq_false_iff_eq, ne_eq, Bool.not_eq_true', Bool.not_eq_false', Bool.not_eq_true, Bool.not_eq_false, Bool.and_eq_true, gt_iff_lt, ge_iff_le, Int.not_lt, Int.not_le] at heq)) <;> first | (exfalso; (try clear hac); (try clear hQl0); (try clear hQl100); (try simp only [ncast, List.length_replicate] at *); omega) | (exfalso; rw [heq] at hc; cases hc; done) | (exfalso; exact absurd hc heq) | (exfalso; exact absurd heq hc) | (exfalso; (try clear hac); (try clear hQl0); (try clear hQl100); simp_all; done) | (try cbv))
  iterate 3 all_goals repeat' first
    | with_reducible refine sub_of0 ?_ rfl
    | with_reducible apply sub_of1
    | with_reducible apply sub_of2
    | with_reducible apply sub_of3
    | with_reducible exact esle_nil
    | ((with_reducible apply esle_c); · first | rfl | exact rfl)
    | ((with_reducible apply esle_a); · first | rfl | exact rfl)
    | with_reducible exact bsle_nil
    | with_reducible refine bsle_cons ?_ ?_
    | with_reducible exact dts_nil
    | with_reducible refine dts_cons ?_ ?_
    | with_reducible refine tle_int ?_
    | with_reducible refine tle_bool ?_
    | with_reducible refine tle_str ?_
    | ((with_reducible apply tle_own); · first | rfl | exact rfl)
    | ((with_reducible apply tle_nilown); · first | rfl | exact rfl)
    | with_reducible refine tle_sl ?_ ?_
    | with_reducible refine tle_nil ?_
    | ((with_reducible apply tle_ownd); rotate_left; · first | rfl | exact rfl; rotate_right)
    | ((with_reducible apply ble_vec); · first | rfl | exact rfl; · exact fun h => h)
    | with_reducible refine ble_none ?_
    | with_reducible refine dt_int ?_
    | with_reducible refine dt_bool ?_
    | with_reducible refine dt_str ?_
    | with_reducible refine dt_sl ?_ ?_
    | with_reducible refine dt_nil ?_
    | with_reducible exact nth_ne rfl
    | ((with_reducible apply nth_ne); exact rfl)
    | (intro i hi; exact ⟨_, rfl⟩)
    | (intro i hi j hj; first | rfl | ((obtain rfl : j = 0 := by omega); first | exact plit1 hθ _ _ _ hi | exact papp1 hθ _ _ _ _ (by first | exact hi | (simp only [← hθ, Θ, stdP, std] at hi; (try clear hac); (try clear hQl0); (try clear hQl100); (try simp only [ncast, List.length_replicate] at *); omega)) | ((try rw [pset hθ]); (try rw [psetz hθ]); (try rw [papp hθ]); (try rw [pover hθ]); (try rw [pover1 hθ]); (try rw [poverz hθ _ _ _ _ _ rfl]); (simp only [Int.zero_sub, condEq, decTrue, nstr2, nbl, nrdB, ← hθ, Θ, stdP, std, cmpI, ari, shf, una, mxI, nw64, nw8, nshr, nshl, nbyte, nmx, nmn, nrd, n_T36, n_T38, repD, repDB, condSelf] at hi ⊢); first | done | rfl | (refine scC ?_; first | rfl | exact setD _ _ _ _ (by (try clear hac); (try clear hQl0); (try clear hQl100); (try simp only [ncast, List.length_replicate] at *); omega) | exact setDz _ _ _ _ (by (try clear hac); (try clear hQl0); (try clear hQl100); (try simp only [ncast, List.length_replicate] at *); omega) | exact appD _ _ _ | exact padD _ _ _ | exact nbo _ _) | (refine scB ?_; first | rfl | exact setDB _ _ _ _ (by (try clear hac); (try clear hQl0); (try clear hQl100); (try simp only [ncast, List.length_replicate] at *); omega) | exact setDBz _ _ _ _ (by (try clear hac); (try clear hQl0); (try clear hQl100); (try simp only [ncast, List.length_replicate] at *); omega)) | fail)))
    | rfl
    | (simp only [Int.zero_sub, condEq, decTrue, nstr2, nbl, nrdB, ← hθ, Θ, stdP, std, cmpI, ari, shf, una, mxI, nw64, nw8, nshr, nshl, nbyte, nmx, nmn, nrd, n_T36, n_T38]; done)
    | ((try simp only [Int.zero_sub, condEq, decTrue, nstr2, nbl, nrdB, ← hθ, Θ, stdP, std, cmpI, ari, shf, una, mxI, nw64, nw8, nshr, nshl, nbyte, nmx, nmn, nrd, n_T36, n_T38, true_and, and_true]); (try clear hac); (try clear hQl0); (try clear hQl100); (try simp only [ncast] at *); first | trivial | omega | (refine ⟨?_, ?_⟩ <;> omega) | (refine ⟨?_, ?_, ?_, ?_⟩ <;> omega) | (simp; done) | (simp; omega) | fail)
theorem bucketlineref01_Count.l0_s {r : Int} : ∀ {k : Nat} {x0 : List Int} {x3 : Int} {x4 : Int}, bucketlineref01_Count.l0 k x0 x3 x4 = some r → ∃ q, q < k ∧ (if x4 < (x0.length : Int) then (if 0 ≤ x4 then (bucketlineref01_Count.l1 q x0 x3 x4 (rd x0 x4)) else (none)) else (some x3)) = some r
  | 0, _, _, _, h => by cases h
  | k + 1, _, _, _, h => ⟨k, Nat.lt_succ_self k, h⟩
theorem bucketlineref01_Count.l1_s {r : Int} : ∀ {k : Nat} {x0 : List Int} {x3 : Int} {x4 : Int} {x5 : Int}, bucketlineref01_Count.l1 k x0 x3 x4 x5 = some r → ∃ q, q < k ∧ (if x5 > 0 then (bucketlineref01_Count.l1 q x0 (wrap64 (x3 + (wrap64 (Go.bits .and .u64 x5 1)))) x4 (x5 / 2)) else (bucketlineref01_Count.l0 q x0 x3 (wrap64 (x4 + 1)))) = some r
  | 0, _, _, _, _, h => by cases h
  | k + 1, _, _, _, _, h => ⟨k, Nat.lt_succ_self k, h⟩
set_option maxHeartbeats 4000000 in
theorem ac_bucketlineref01_Count {k : Nat} {l0 : List Int} {r : Int} (h : bucketlineref01_Count.f k l0 = some r) : AC Tryd.prog N0 G0 38 [] [.c (.d (eI Θ .u64 l0))] [] (.c (.d (.sc (.int .i64 r)))) := by
  refine ac_mk Tryd.func38 rfl (by decide) rfl ?_
  generalize hθ : Θ = θ
  rw [bucketlineref01_Count.f] at h
  cbv
  repeat' first
    | ((with_reducible refine pre_and ?_ ?_); rotate_left; (try cbv))
    | with_reducible exact noneO h
    | ((with_reducible replace h := iteO h); rcases h with ⟨hc, h⟩ | ⟨hc, h⟩ <;> (try simp only [decide_eq_true_eq, decide_eq_false_iff_not, beq_iff_eq, bne_iff_ne, beq_eq_false_iff_ne, bne_eq_false_iff_eq, ne_eq, Bool.not_eq_true', Bool.not_eq_false', Bool.not_eq_true, Bool.not_eq_false, Bool.and_eq_true, gt_iff_lt, ge_iff_le, Int.not_lt, Int.not_le] at hc))
    | with_reducible replace h := someB h
    | with_reducible refine hQl0 _ _ _ (by omega) ⟨_, _, _, h, rfl⟩ ?_
    | ((with_reducible refine loopI hθ (fun k s => ∃ (x0 : List Int) (x3 : Int) (x4 : Int), bucketlineref01_Count.l0 k x0 x3 x4 = some r ∧ s = ⟨envL [(0, .c (.d (eI θ .u64 x0))), (3, .c (.d (.sc (.int .i64 x3)))), (4, .c (.d (.sc (.int .i64 x4))))], arOf [], 0, 26, 0⟩) ⟨_, _, _, h, rfl⟩ ?_ ?_); rotate_left; (rintro m _ Ql0 hm ⟨x0, x3, x4, h, rfl⟩ hQl0; replace h := bucketlineref01_Count.l0_s h; obtain ⟨k, hk, h⟩ := h; cbv))
    | with_reducible refine hQl1 _ _ _ (by omega) ⟨_, _, _, _, h, rfl⟩ ?_
    | ((with_reducible refine loopI hθ (fun k s => ∃ (x0 : List Int) (x3 : Int) (x4 : Int) (x5 : Int), bucketlineref01_Count.l1 k x0 x3 x4 x5 = some r ∧ s = ⟨envL [(0, .c (.d (eI θ .u64 x0))), (3, .c (.d (.sc (.int .i64 x3)))), (4, .c (.d (.sc (.int .i64 x4)))), (5, .c (.d (.sc (.int .u64 x5))))], arOf [], 0, 26, 0⟩) ⟨_, _, _, _, h, rfl⟩ ?_ ?_); rotate_left; (rintro m _ Ql1 hm ⟨x0, x3, x4, x5, h, rfl⟩ hQl1; replace h := bucketlineref01_Count.l1_s h; obtain ⟨k, hk, h⟩ := h; cbv))
    | ((with_reducible replace h := Option.some.inj h); subst h; simp only [← hθ, Θ, stdP, std]; refine exp_of0 ?_)
    | (split <;> (try (rename_i heq; simp only [Int.zero_sub, condEq, decTrue, nstr2, nbl, nrdB, ← hθ, Θ, stdP, std, cmpI, ari, shf, una, mxI, nw64, nw8, nshr, nshl, nbyte, nmx, nmn, nrd, n_T36, n_T38, decide_eq_true_eq, decide_eq_false_iff_not, beq_iff_eq, bne_iff_ne, beq_eq_false_iff_ne, bne_eq_false_iff_eq, ne_eq, Bool.not_eq_true', Bool.not_eq_false', Bool.not_eq_true, Bool.not_eq_false, Bool.and_eq_true, gt_iff_lt, ge_iff_le, Int.not_lt, Int.not_le] at heq)) <;> first | (exfalso; (try clear hac); (try clear hQl0); (try clear hQl1); (try simp only [ncast, List.length_replicate] at *); omega) | (exfalso; rw [heq] at hc; cases hc; done) | (exfalso; exact absurd hc heq) | (exfalso; exact absurd heq hc) | (exfalso; (try clear hac); (try clear hQl0); (try clear hQl1); simp_all; done) | (try cbv))
  iterate 3 all_goals repeat' first
    | with_reducible refine sub_of0 ?_ rfl
    | with_reducible apply sub_of1
    | with_reducible apply sub_of2
    | with_reducible apply sub_of3
    | with_reducible exact esle_nil
    | ((with_reducible apply esle_c); · first | rfl | exact rfl)
    | ((with_reducible apply esle_a); · first | rfl | exact rfl)
    | with_reducible exact bsle_nil
    | with_reducible refine bsle_cons ?_ ?_
    | with_reducible exact dts_nil
    | with_reducible refine dts_cons ?_ ?_
    | with_reducible refine tle_int ?_
    | with_reducible refine tle_bool ?_
    | with_reducible refine tle_str ?_
    | ((with_reducible apply tle_own); · first | rfl | exact rfl)
    | ((with_reducible apply tle_nilown); · first | rfl | exact rfl)
    | with_reducible refine tle_sl ?_ ?_
    | with_reducible refine tle_nil ?_
    | ((with_reducible apply tle_ownd); rotate_left; · first | rfl | exact rfl; rotate_right)
    | ((with_reducible apply ble_vec); · first | rfl | exact rfl; · exact fun h => h)
    | with_reducible refine ble_none ?_
    | with_reducible refine dt_int ?_
    | with_reducible refine dt_bool ?_
    | with_reducible refine dt_str ?_
    | with_reducible refine dt_sl ?_ ?_
    | with_reducible refine dt_nil ?_
    | with_reducible exact nth_ne rfl
    | ((with_reducible apply nth_ne); exact rfl)
    | (intro i hi; exact ⟨_, rfl⟩)
    | (intro i hi j hj; first | rfl | ((obtain rfl : j = 0 := by omega); first | exact plit1 hθ _ _ _ hi | exact papp1 hθ _ _ _ _ (by first | exact hi | (simp only [← hθ, Θ, stdP, std] at hi; (try clear hac); (try clear hQl0); (try clear hQl1); (try simp only [ncast, List.length_replicate] at *); omega)) | ((try rw [pset hθ]); (try rw [psetz hθ]); (try rw [papp hθ]); (try rw [pover hθ]); (try rw [pover1 hθ]); (try rw [poverz hθ _ _ _ _ _ rfl]); (simp only [Int.zero_sub, condEq, decTrue, nstr2, nbl, nrdB, ← hθ, Θ, stdP, std, cmpI, ari, shf, una, mxI, nw64, nw8, nshr, nshl, nbyte, nmx, nmn, nrd, n_T36, n_T38, repD, repDB, condSelf] at hi ⊢); first | done | rfl | (refine scC ?_; first | rfl | exact setD _ _ _ _ (by (try clear hac); (try clear hQl0); (try clear hQl1); (try simp only [ncast, List.length_replicate] at *); omega) | exact setDz _ _ _ _ (by (try clear hac); (try clear hQl0); (try clear hQl1); (try simp only [ncast, List.length_replicate] at *); omega) | exact appD _ _ _ | exact padD _ _ _ | exact nbo _ _) | (refine scB ?_; first | rfl | exact setDB _ _ _ _ (by (try clear hac); (try clear hQl0); (try clear hQl1); (try simp only [ncast, List.length_replicate] at *); omega) | exact setDBz _ _ _ _ (by (try clear hac); (try clear hQl0); (try clear hQl1); (try simp only [ncast, List.length_replicate] at *); omega)) | fail)))
    | rfl
    | (simp only [Int.zero_sub, condEq, decTrue, nstr2, nbl, nrdB, ← hθ, Θ, stdP, std, cmpI, ari, shf, una, mxI, nw64, nw8, nshr, nshl, nbyte, nmx, nmn, nrd, n_T36, n_T38]; done)
    | ((try simp only [Int.zero_sub, condEq, decTrue, nstr2, nbl, nrdB, ← hθ, Θ, stdP, std, cmpI, ari, shf, una, mxI, nw64, nw8, nshr, nshl, nbyte, nmx, nmn, nrd, n_T36, n_T38, true_and, and_true]); (try clear hac); (try clear hQl0); (try clear hQl1); (try simp only [ncast] at *); first | trivial | omega | (refine ⟨?_, ?_⟩ <;> omega) | (refine ⟨?_, ?_, ?_, ?_⟩ <;> omega) | (simp; done) | (simp; omega) | fail)
theorem bucketlineref18_Choose.j2_s {r : List Int} : ∀ {k : Nat} {x7 : Int} {x8 : List Bool}, bucketlineref18_Choose.j2 k x7 x8 = some r → ∃ q, q < k ∧ (bucketlineref18_Choose.l2 q x7 x8 ([] : List Int) 0) = some r
  | 0, _, _, h => by cases h
  | k + 1, _, _, h => ⟨k, Nat.lt_succ_self k, h⟩
theorem bucketlineref18_Choose.l0_s {r : List Int} : ∀ {k : Nat} {x0 : List (S36)} {x2 : Int} {x7 : Int} {x8 : List Bool} {x10 : List Int} {x11 : Int}, bucketlineref18_Choose.l0 k x0 x2 x7 x8 x10 x11 = some r → ∃ q, q < k ∧ (if x11 < 32 then ((bucketlineref01_Count.f q x10).bind fun t196 => ((bucketlineref18_far.f t196 x2).bind fun t197 => (bucketlineref18_Choose.l1 q x0 x2 x7 x8 x10 x11 (-1) t197 0))) else (bucketlineref18_Choose.j2 q x7 x8)) = some r
  | 0, _, _, _, _, _, _, h => by cases h
  | k + 1, _, _, _, _, _, _, h => ⟨k, Nat.lt_succ_self k, h⟩
theorem bucketlineref18_Choose.l1_s {r : List Int} : ∀ {k : Nat} {x0 : List (S36)} {x2 : Int} {x7 : Int} {x8 : List Bool} {x10 : List Int} {x11 : Int} {x12 : Int} {x13 : Int} {x14 : Int}, bucketlineref18_Choose.l1 k x0 x2 x7 x8 x10 x11 x12 x13 x14 = some r → ∃ q, q < k ∧ (if x14 < x7 then (if 0 ≤ x14 then (if x14 < (x0.length : Int) then ((bucketlineref01_Xor.f q x10 ((rd_T36 x0 x14).f0)).bind fun t204 => ((bucketlineref01_Count.f q t204).bind fun t207 => (if x14 < (x8.length : Int) then (if rdOf false x8 x14 = true then (bucketlineref18_Choose.l1 q x0 x2 x7 x8 x10 x11 x12 x13 (wrap64 (x14 + 1))) else (if t207 > 0 then ((bucketlineref18_far.f t207 x2).bind fun t209 => (if t209 < x13 then ((bucketlineref18_far.f t207 x2).bind fun t210 => (bucketlineref18_Choose.l1 q x0 x2 x7 x8 x10 x11 x14 t210 (wrap64 (x14 + 1)))) else (bucketlineref18_Choose.l1 q x0 x2 x7 x8 x10 x11 x12 x13 (wrap64 (x14 + 1))))) else (bucketlineref18_Choose.l1 q x0 x2 x7 x8 x10 x11 x12 x13 (wrap64 (x14 + 1))))) else (none)))) else (none)) else (none)) else (if x12 < 0 then (bucketlineref18_Choose.j2 q x7 x8) else (if 0 ≤ x12 then (if x12 < (x8.length : Int) then (if x12 < (x0.length : Int) then ((bucketlineref01_Xor.f q x10 ((rd_T36 x0 x12).f0)).bind fun t200 => (bucketlineref18_Choose.l0 q x0 x2 x7 (x8.set (x12 : Int).toNat true) t200 (wrap64 (x11 + 1)))) else (none)) else (none)) else (none)))) = some r
  | 0, _, _, _, _, _, _, _, _, _, h => by cases h
  | k + 1, _, _, _, _, _, _, _, _, _, h => ⟨k, Nat.lt_succ_self k, h⟩
theorem bucketlineref18_Choose.l2_s {r : List Int} : ∀ {k : Nat} {x7 : Int} {x8 : List Bool} {x16 : List Int} {x17 : Int}, bucketlineref18_Choose.l2 k x7 x8 x16 x17 = some r → ∃ q, q < k ∧ (if x17 < x7 then (if 0 ≤ x17 then (if x17 < (x8.length : Int) then (if rdOf false x8 x17 = true then (if x16.length < 17592186044416 then (bucketlineref18_Choose.l2 q x7 x8 (x16 ++ [x17]) (wrap64 (x17 + 1))) else (none)) else (bucketlineref18_Choose.l2 q x7 x8 x16 (wrap64 (x17 + 1)))) else (none)) else (none)) else (some x16)) = some r
  | 0, _, _, _, _, h => by cases h
  | k + 1, _, _, _, _, h => ⟨k, Nat.lt_succ_self k, h⟩
theorem bucketlineref02_Xor.j0_s {r : ByteArray} : ∀ {k : Nat} {x0 : ByteArray} {x1 : ByteArray}, bucketlineref02_Xor.j0 k x0 x1 = some r → ∃ q, q < k ∧ (if x0.size < 140737488355328 then (bucketlineref02_Xor.l0 q x1 (bytesOf x0) 0) else (none)) = some r
  | 0, _, _, h => by cases h
  | k + 1, _, _, h => ⟨k, Nat.lt_succ_self k, h⟩
theorem bucketlineref02_Xor.l0_s {r : ByteArray} : ∀ {k : Nat} {x1 : ByteArray} {x5 : List Int} {x6 : Int}, bucketlineref02_Xor.l0 k x1 x5 x6 = some r → ∃ q, q < k ∧ (if x6 < (x1.size : Int) then (if 0 ≤ x6 then (if x6 < (x5.length : Int) then (bucketlineref02_Xor.l0 q x1 (x5.set (x6 : Int).toNat (Go.bits .xor .u8 (rd x5 x6) (bt x1 x6))) (wrap64 (x6 + 1))) else (none)) else (none)) else (some (strOfNums x5))) = some r
  | 0, _, _, _, h => by cases h
  | k + 1, _, _, _, h => ⟨k, Nat.lt_succ_self k, h⟩
set_option maxHeartbeats 4000000 in
theorem ac_bucketlineref02_Xor {k : Nat} {a0 : ByteArray} {a1 : ByteArray} {r : ByteArray} (h : bucketlineref02_Xor.f k a0 a1 = some r) : AC Tryd.prog N0 G0 64 [] [.c (.d (.sc (.string a0))), .c (.d (.sc (.string a1)))] [] (.c (.d (.sc (.string r)))) := by
  refine ac_mk Tryd.func64 rfl (by decide) rfl ?_
  generalize hθ : Θ = θ
  rw [bucketlineref02_Xor.f] at h
  cbv
  repeat' first
    | ((with_reducible refine pre_and ?_ ?_); rotate_left; (try cbv))
    | with_reducible exact noneO h
    | ((with_reducible replace h := iteO h); rcases h with ⟨hc, h⟩ | ⟨hc, h⟩ <;> (try simp only [decide_eq_true_eq, decide_eq_false_iff_not, beq_iff_eq, bne_iff_ne, beq_eq_false_iff_ne, bne_eq_false_iff_eq, ne_eq, Bool.not_eq_true', Bool.not_eq_false', Bool.not_eq_true, Bool.not_eq_false, Bool.and_eq_true, gt_iff_lt, ge_iff_le, Int.not_lt, Int.not_le] at hc))
    | with_reducible replace h := someB h
    | ((with_reducible replace h := bucketlineref02_Xor.j0_s h); obtain ⟨k, hk, h⟩ := h)
    | with_reducible refine hQl0 _ _ _ (by omega) ⟨_, _, _, h, rfl⟩ ?_
    | ((with_reducible refine loopI hθ (fun k s => ∃ (x1 : ByteArray) (x5 : List Int) (x6 : Int), bucketlineref02_Xor.l0 k x1 x5 x6 = some r ∧ s = ⟨envL [(1, .c (.d (.sc (.string x1)))), (5, .c (.own 0 (θ.len x5))), (6, .c (.d (.sc (.int .i64 x6))))], arOf [bIt θ .u8 5 x5], 1, 35, 0⟩) ⟨_, _, _, h, rfl⟩ ?_ ?_); rotate_left; (rintro m _ Ql0 hm ⟨x1, x5, x6, h, rfl⟩ hQl0; replace h := bucketlineref02_Xor.l0_s h; obtain ⟨k, hk, h⟩ := h; cbv))
    | ((with_reducible replace h := Option.some.inj h); subst h; simp only [← hθ, Θ, stdP, std]; refine exp_of0 ?_)
    | (split <;> (try (rename_i heq; simp only [Int.zero_sub, condEq, decTrue, nstr2, nbl, nrdB, ← hθ, Θ, stdP, std, cmpI, ari, shf, una, mxI, nw64, nw8, nshr, nshl, nbyte, nmx, nmn, nrd, n_T36, n_T38, decide_eq_true_eq, decide_eq_false_iff_not, beq_iff_eq, bne_iff_ne, beq_eq_false_iff_ne, bne_eq_false_iff_eq, ne_eq, Bool.not_eq_true', Bool.not_eq_false', Bool.not_eq_true, Bool.not_eq_false, Bool.and_eq_true, gt_iff_lt, ge_iff_le, Int.not_lt, Int.not_le] at heq)) <;> first | (exfalso; (try clear hac); (try clear hQl0); (try simp only [ncast, List.length_replicate] at *); omega) | (exfalso; rw [heq] at hc; cases hc; done) | (exfalso; exact absurd hc heq) | (exfalso; exact absurd heq hc) | (exfalso; (try clear hac); (try clear hQl0); simp_all; done) | (try cbv))
  iterate 3 all_goals repeat' first
    | with_reducible refine sub_of0 ?_ rfl
    | with_reducible apply sub_of1
    | with_reducible apply sub_of2
    | with_reducible apply sub_of3
    | with_reducible exact esle_nil
    | ((with_reducible apply esle_c); · first | rfl | exact rfl)
    | ((with_reducible apply esle_a); · first | rfl | exact rfl)
    | with_reducible exact bsle_nil
    | with_reducible refine bsle_cons ?_ ?_
    | with_reducible exact dts_nil
    | with_reducible refine dts_cons ?_ ?_
    | with_reducible refine tle_int ?_
    | with_reducible refine tle_bool ?_
    | with_reducible refine tle_str ?_
    | ((with_reducible apply tle_own); · first | rfl | exact rfl)
    | ((with_reducible apply tle_nilown); · first | rfl | exact rfl)
    | with_reducible refine tle_sl ?_ ?_
    | with_reducible refine tle_nil ?_
    | ((with_reducible apply tle_ownd); rotate_left; · first | rfl | exact rfl; rotate_right)
    | ((with_reducible apply ble_vec); · first | rfl | exact rfl; · exact fun h => h)
    | with_reducible refine ble_none ?_
    | with_reducible refine dt_int ?_
    | with_reducible refine dt_bool ?_
    | with_reducible refine dt_str ?_
    | with_reducible refine dt_sl ?_ ?_
    | with_reducible refine dt_nil ?_
    | with_reducible exact nth_ne rfl
    | ((with_reducible apply nth_ne); exact rfl)
    | (intro i hi; exact ⟨_, rfl⟩)
    | (intro i hi j hj; first | rfl | ((obtain rfl : j = 0 := by omega); first | exact plit1 hθ _ _ _ hi | exact papp1 hθ _ _ _ _ (by first | exact hi | (simp only [← hθ, Θ, stdP, std] at hi; (try clear hac); (try clear hQl0); (try simp only [ncast, List.length_replicate] at *); omega)) | ((try rw [pset hθ]); (try rw [psetz hθ]); (try rw [papp hθ]); (try rw [pover hθ]); (try rw [pover1 hθ]); (try rw [poverz hθ _ _ _ _ _ rfl]); (simp only [Int.zero_sub, condEq, decTrue, nstr2, nbl, nrdB, ← hθ, Θ, stdP, std, cmpI, ari, shf, una, mxI, nw64, nw8, nshr, nshl, nbyte, nmx, nmn, nrd, n_T36, n_T38, repD, repDB, condSelf] at hi ⊢); first | done | rfl | (refine scC ?_; first | rfl | exact setD _ _ _ _ (by (try clear hac); (try clear hQl0); (try simp only [ncast, List.length_replicate] at *); omega) | exact setDz _ _ _ _ (by (try clear hac); (try clear hQl0); (try simp only [ncast, List.length_replicate] at *); omega) | exact appD _ _ _ | exact padD _ _ _ | exact nbo _ _) | (refine scB ?_; first | rfl | exact setDB _ _ _ _ (by (try clear hac); (try clear hQl0); (try simp only [ncast, List.length_replicate] at *); omega) | exact setDBz _ _ _ _ (by (try clear hac); (try clear hQl0); (try simp only [ncast, List.length_replicate] at *); omega)) | fail)))
    | rfl
    | (simp only [Int.zero_sub, condEq, decTrue, nstr2, nbl, nrdB, ← hθ, Θ, stdP, std, cmpI, ari, shf, una, mxI, nw64, nw8, nshr, nshl, nbyte, nmx, nmn, nrd, n_T36, n_T38]; done)
    | ((try simp only [Int.zero_sub, condEq, decTrue, nstr2, nbl, nrdB, ← hθ, Θ, stdP, std, cmpI, ari, shf, una, mxI, nw64, nw8, nshr, nshl, nbyte, nmx, nmn, nrd, n_T36, n_T38, true_and, and_true]); (try clear hac); (try clear hQl0); (try simp only [ncast] at *); first | trivial | omega | (refine ⟨?_, ?_⟩ <;> omega) | (refine ⟨?_, ?_, ?_, ?_⟩ <;> omega) | (simp; done) | (simp; omega) | fail)
theorem bucketlineref02_Row.l0_s {r : List Int × ByteArray} : ∀ {k : Nat} {x0 : List (S36)} {x4 : Int} {x228000 : List Int} {x228001 : ByteArray}, bucketlineref02_Row.l0 k x0 x4 x228000 x228001 = some r → ∃ q, q < k ∧ (if x4 < (x0.length : Int) then (if 0 ≤ x4 then ((bucketlineref01_Xor.f q x228000 ((rd_T36 x0 x4).f0)).bind fun t229 => ((bucketlineref02_Xor.f q x228001 ((rd_T36 x0 x4).f1)).bind fun t233 => (bucketlineref02_Row.l0 q x0 (wrap64 (x4 + 1)) t229 t233))) else (none)) else (some (x228000, x228001))) = some r
  | 0, _, _, _, _, h => by cases h
  | k + 1, _, _, _, _, h => ⟨k, Nat.lt_succ_self k, h⟩
set_option maxHeartbeats 4000000 in
theorem ac_bucketlineref02_Row {k : Nat} {l0 : List (S36)} {r : List Int × ByteArray} (h : bucketlineref02_Row.f k l0 = some r) : AC Tryd.prog N0 G0 53 [] [.c (.d (est_36 Θ l0))] [] (.agg [.d (eI Θ .u64 r.1), .d (.sc (.string r.2))]) := by
  refine ac_mk Tryd.func53 rfl (by decide) rfl ?_
  generalize hθ : Θ = θ
  rw [bucketlineref02_Row.f] at h
  cbv
  repeat' first
    | ((with_reducible refine pre_and ?_ ?_); rotate_left; (try cbv))
    | with_reducible exact noneO h
    | ((with_reducible replace h := iteO h); rcases h with ⟨hc, h⟩ | ⟨hc, h⟩ <;> (try simp only [decide_eq_true_eq, decide_eq_false_iff_not, beq_iff_eq, bne_iff_ne, beq_eq_false_iff_ne, bne_eq_false_iff_eq, ne_eq, Bool.not_eq_true', Bool.not_eq_false', Bool.not_eq_true, Bool.not_eq_false, Bool.and_eq_true, gt_iff_lt, ge_iff_le, Int.not_lt, Int.not_le] at hc))
    | with_reducible replace h := someB h
    | ((with_reducible replace h := bindO h); obtain ⟨t, ht, h⟩ := h; have hac := ac_bucketlineref01_Xor ht; (try rw [hθ] at hac); refine call_rule' hθ hac rfl rfl ?_ rfl ?_; clear hac; rotate_left; (try cbv))
    | ((with_reducible replace h := bindO h); obtain ⟨t, ht, h⟩ := h; have hac := ac_bucketlineref02_Xor ht; (try rw [hθ] at hac); refine call_rule' hθ hac rfl rfl ?_ rfl ?_; clear hac; rotate_left; (try cbv))
    | with_reducible refine hQl0 _ _ _ (by omega) ⟨_, _, _, _, h, rfl⟩ ?_
    | ((with_reducible refine loopI hθ (fun k s => ∃ (x0 : List (S36)) (x4 : Int) (x228000 : List Int) (x228001 : ByteArray), bucketlineref02_Row.l0 k x0 x4 x228000 x228001 = some r ∧ s = ⟨envL [(2, .c (.ptr 0 0)), (0, .c (.d (est_36 θ x0))), (4, .c (.d (.sc (.int .i64 x4)))), (3, .c (.ptr 1 0))], arOf [Blk.box [.junk, .junk], Blk.box [.d (eI θ .u64 x228000), .d (.sc (.string x228001))]], 2, 31, 0⟩) ⟨_, _, _, _, h, rfl⟩ ?_ ?_); rotate_left; (rintro m _ Ql0 hm ⟨x0, x4, x228000, x228001, h, rfl⟩ hQl0; replace h := bucketlineref02_Row.l0_s h; obtain ⟨k, hk, h⟩ := h; cbv))
    | ((with_reducible replace h := Option.some.inj h); subst h; simp only [← hθ, Θ, stdP, std]; refine exp_of0 ?_)
    | (split <;> (try (rename_i heq; simp only [Int.zero_sub, condEq, decTrue, nstr2, nbl, nrdB, ← hθ, Θ, stdP, std, cmpI, ari, shf, una, mxI, nw64, nw8, nshr, nshl, nbyte, nmx, nmn, nrd, n_T36, n_T38, decide_eq_true_eq, decide_eq_false_iff_not, beq_iff_eq, bne_iff_ne, beq_eq_false_iff_ne, bne_eq_false_iff_eq, ne_eq, Bool.not_eq_true', Bool.not_eq_false', Bool.not_eq_true, Bool.not_eq_false, Bool.and_eq_true, gt_iff_lt, ge_iff_le, Int.not_lt, Int.not_le] at heq)) <;> first | (exfalso; (try clear hac); (try clear hQl0); (try simp only [ncast, List.length_replicate] at *); omega) | (exfalso; rw [heq] at hc; cases hc; done) | (exfalso; exact absurd hc heq) | (exfalso; exact absurd heq hc) | (exfalso; (try clear hac); (try clear hQl0); simp_all; done) | (try cbv))
  iterate 3 all_goals repeat' first
    | with_reducible refine sub_of0 ?_ rfl
    | with_reducible apply sub_of1
    | with_reducible apply sub_of2
    | with_reducible apply sub_of3
    | with_reducible exact esle_nil
    | ((with_reducible apply esle_c); · first | rfl | exact rfl)
    | ((with_reducible apply esle_a); · first | rfl | exact rfl)
    | with_reducible exact bsle_nil
    | with_reducible refine bsle_cons ?_ ?_
    | with_reducible exact dts_nil
    | with_reducible refine dts_cons ?_ ?_
    | with_reducible refine tle_int ?_
    | with_reducible refine tle_bool ?_
    | with_reducible refine tle_str ?_
    | ((with_reducible apply tle_own); · first | rfl | exact rfl)
    | ((with_reducible apply tle_nilown); · first | rfl | exact rfl)
    | with_reducible refine tle_sl ?_ ?_
    | with_reducible refine tle_nil ?_
    | ((with_reducible apply tle_ownd); rotate_left; · first | rfl | exact rfl; rotate_right)
    | with_reducible refine tle_agg ?_
    | with_reducible refine tle_tup ?_
    | with_reducible exact csle_nil
    | with_reducible refine csle_cons ?_ ?_
    | with_reducible exact tsle_nil
    | with_reducible refine tsle_cons ?_ ?_
    | with_reducible refine cle_int ?_
    | with_reducible refine cle_bool ?_
    | with_reducible refine cle_str ?_
    | ((with_reducible apply cle_own); · first | rfl | exact rfl)
    | ((with_reducible apply cle_nilown); · first | rfl | exact rfl)
    | with_reducible refine cle_sl ?_ ?_
    | with_reducible refine cle_nil ?_
    | ((with_reducible apply cle_ownd); rotate_left; · first | rfl | exact rfl; rotate_right)
    | with_reducible exact cle_rfl
    | ((with_reducible apply ble_vec); · first | rfl | exact rfl; · exact fun h => h)
    | with_reducible refine ble_none ?_
    | ((with_reducible apply ble_box); · first | rfl | exact rfl)
    | ((with_reducible apply tle_ptr); · first | rfl | exact rfl)
    | ((with_reducible apply tle_vptr); · first | rfl | exact rfl)
    | with_reducible exact ble_dead
    | ((with_reducible apply cle_ptr); · first | rfl | exact rfl)
    | with_reducible exact cle_junk
    | with_reducible refine dt_int ?_
    | with_reducible refine dt_bool ?_
    | with_reducible refine dt_str ?_
    | with_reducible refine dt_sl ?_ ?_
    | with_reducible refine dt_nil ?_
    | with_reducible refine dt_agg ?_
    | with_reducible exact dcs_nil
    | with_reducible refine dcs_cons ?_ ?_
    | with_reducible exact dcs_mapn
    | with_reducible refine dcs_mapc ?_ ?_
    | with_reducible exact dl_rfl
    | with_reducible refine dl_int ?_
    | with_reducible refine dl_bool ?_
    | with_reducible refine dl_str ?_
    | with_reducible refine dl_sl ?_ ?_
    | with_reducible refine dl_nil ?_
    | with_reducible exact nth_ne rfl
    | ((with_reducible apply nth_ne); exact rfl)
    | (intro i hi; exact ⟨_, rfl⟩)
    | (intro i hi j hj; first | rfl | ((obtain rfl : j = 0 := by omega); first | exact plit1 hθ _ _ _ hi | exact papp1 hθ _ _ _ _ (by first | exact hi | (simp only [← hθ, Θ, stdP, std] at hi; (try clear hac); (try clear hQl0); (try simp only [ncast, List.length_replicate] at *); omega)) | ((try rw [pset hθ]); (try rw [psetz hθ]); (try rw [papp hθ]); (try rw [pover hθ]); (try rw [pover1 hθ]); (try rw [poverz hθ _ _ _ _ _ rfl]); (simp only [Int.zero_sub, condEq, decTrue, nstr2, nbl, nrdB, ← hθ, Θ, stdP, std, cmpI, ari, shf, una, mxI, nw64, nw8, nshr, nshl, nbyte, nmx, nmn, nrd, n_T36, n_T38, repD, repDB, condSelf] at hi ⊢); first | done | rfl | (refine scC ?_; first | rfl | exact setD _ _ _ _ (by (try clear hac); (try clear hQl0); (try simp only [ncast, List.length_replicate] at *); omega) | exact setDz _ _ _ _ (by (try clear hac); (try clear hQl0); (try simp only [ncast, List.length_replicate] at *); omega) | exact appD _ _ _ | exact padD _ _ _ | exact nbo _ _) | (refine scB ?_; first | rfl | exact setDB _ _ _ _ (by (try clear hac); (try clear hQl0); (try simp only [ncast, List.length_replicate] at *); omega) | exact setDBz _ _ _ _ (by (try clear hac); (try clear hQl0); (try simp only [ncast, List.length_replicate] at *); omega)) | fail)))
    | rfl
    | (simp only [Int.zero_sub, condEq, decTrue, nstr2, nbl, nrdB, ← hθ, Θ, stdP, std, cmpI, ari, shf, una, mxI, nw64, nw8, nshr, nshl, nbyte, nmx, nmn, nrd, n_T36, n_T38]; done)
    | ((try simp only [Int.zero_sub, condEq, decTrue, nstr2, nbl, nrdB, ← hθ, Θ, stdP, std, cmpI, ari, shf, una, mxI, nw64, nw8, nshr, nshl, nbyte, nmx, nmn, nrd, n_T36, n_T38, true_and, and_true]); (try clear hac); (try clear hQl0); (try simp only [ncast] at *); first | trivial | omega | (refine ⟨?_, ?_⟩ <;> omega) | (refine ⟨?_, ?_, ?_, ?_⟩ <;> omega) | (simp; done) | (simp; omega) | fail)
theorem bucketlineref18_sum.l0_s {r : List Int × ByteArray} : ∀ {k : Nat} {x0 : List (S36)} {x1 : List Int} {x5 : List (S36)} {x6 : Int}, bucketlineref18_sum.l0 k x0 x1 x5 x6 = some r → ∃ q, q < k ∧ (if x6 < (x1.length : Int) then (if 0 ≤ x6 then (if (rd x1 x6) ≥ 0 then (if (rd x1 x6) < (x0.length : Int) then (if 0 ≤ (rd x1 x6) then (if x5.length < 3518437208883 then (bucketlineref18_sum.l0 q x0 x1 (x5 ++ [(⟨(rd_T36 x0 (rd x1 x6)).f0, (rd_T36 x0 (rd x1 x6)).f1⟩ : S36)]) (wrap64 (x6 + 1))) else (none)) else (none)) else (bucketlineref18_sum.l0 q x0 x1 x5 (wrap64 (x6 + 1)))) else (bucketlineref18_sum.l0 q x0 x1 x5 (wrap64 (x6 + 1)))) else (none)) else ((bucketlineref02_Row.f q x5).bind fun bt242 => (some (bt242.1, bt242.2)))) = some r
  | 0, _, _, _, _, h => by cases h
  | k + 1, _, _, _, _, h => ⟨k, Nat.lt_succ_self k, h⟩
set_option maxHeartbeats 4000000 in
theorem ac_bucketlineref18_sum {k : Nat} {l0 : List (S36)} {l1 : List Int} {r : List Int × ByteArray} (h : bucketlineref18_sum.f k l0 l1 = some r) : AC Tryd.prog N0 G0 40 [] [.c (.d (est_36 Θ l0)), .c (.d (eI Θ .i64 l1))] [] (.agg [.d (eI Θ .u64 r.1), .d (.sc (.string r.2))]) := by
  refine ac_mk Tryd.func40 rfl (by decide) rfl ?_
  generalize hθ : Θ = θ
  rw [bucketlineref18_sum.f] at h
  cbv
  repeat' first
    | ((with_reducible refine pre_and ?_ ?_); rotate_left; (try cbv))
    | with_reducible exact noneO h
    | ((with_reducible replace h := iteO h); rcases h with ⟨hc, h⟩ | ⟨hc, h⟩ <;> (try simp only [decide_eq_true_eq, decide_eq_false_iff_not, beq_iff_eq, bne_iff_ne, beq_eq_false_iff_ne, bne_eq_false_iff_eq, ne_eq, Bool.not_eq_true', Bool.not_eq_false', Bool.not_eq_true, Bool.not_eq_false, Bool.and_eq_true, gt_iff_lt, ge_iff_le, Int.not_lt, Int.not_le] at hc))
    | with_reducible replace h := someB h
    | ((with_reducible replace h := bindO h); obtain ⟨t, ht, h⟩ := h; have hac := ac_bucketlineref02_Row ht; (try rw [hθ] at hac); refine call_rule' hθ hac rfl rfl ?_ rfl ?_; clear hac; rotate_left; (try cbv))
    | with_reducible refine hQl0 _ _ _ (by omega) ⟨_, _, _, _, h, rfl⟩ ?_
    | ((with_reducible refine loopI hθ (fun k s => ∃ (x0 : List (S36)) (x1 : List Int) (x5 : List (S36)) (x6 : Int), bucketlineref18_sum.l0 k x0 x1 x5 x6 = some r ∧ s = ⟨envL [(4, .c (.ptr 0 0)), (0, .c (.d (est_36 θ x0))), (1, .c (.d (eI θ .i64 x1))), (5, .c (.own 1 (θ.len x5))), (6, .c (.d (.sc (.int .i64 x6))))], arOf [Blk.box [.junk, .junk], bst_36 θ x5], 2, 39, 0⟩) ⟨_, _, _, _, h, rfl⟩ ?_ ?_); rotate_left; (rintro m _ Ql0 hm ⟨x0, x1, x5, x6, h, rfl⟩ hQl0; replace h := bucketlineref18_sum.l0_s h; obtain ⟨k, hk, h⟩ := h; cbv))
    | ((with_reducible replace h := Option.some.inj h); subst h; simp only [← hθ, Θ, stdP, std]; refine exp_of0 ?_)
    | (split <;> (try (rename_i heq; simp only [Int.zero_sub, condEq, decTrue, nstr2, nbl, nrdB, ← hθ, Θ, stdP, std, cmpI, ari, shf, una, mxI, nw64, nw8, nshr, nshl, nbyte, nmx, nmn, nrd, n_T36, n_T38, decide_eq_true_eq, decide_eq_false_iff_not, beq_iff_eq, bne_iff_ne, beq_eq_false_iff_ne, bne_eq_false_iff_eq, ne_eq, Bool.not_eq_true', Bool.not_eq_false', Bool.not_eq_true, Bool.not_eq_false, Bool.and_eq_true, gt_iff_lt, ge_iff_le, Int.not_lt, Int.not_le] at heq)) <;> first | (exfalso; (try clear hac); (try clear hQl0); (try simp only [ncast, List.length_replicate] at *); omega) | (exfalso; rw [heq] at hc; cases hc; done) | (exfalso; exact absurd hc heq) | (exfalso; exact absurd heq hc) | (exfalso; (try clear hac); (try clear hQl0); simp_all; done) | (try cbv))
  iterate 3 all_goals repeat' first
    | with_reducible refine sub_of0 ?_ rfl
    | with_reducible apply sub_of1
    | with_reducible apply sub_of2
    | with_reducible apply sub_of3
    | with_reducible exact esle_nil
    | ((with_reducible apply esle_c); · first | rfl | exact rfl)
    | ((with_reducible apply esle_a); · first | rfl | exact rfl)
    | with_reducible exact bsle_nil
    | with_reducible refine bsle_cons ?_ ?_
    | with_reducible exact dts_nil
    | with_reducible refine dts_cons ?_ ?_
    | with_reducible refine tle_int ?_
    | with_reducible refine tle_bool ?_
    | with_reducible refine tle_str ?_
    | ((with_reducible apply tle_own); · first | rfl | exact rfl)
    | ((with_reducible apply tle_nilown); · first | rfl | exact rfl)
    | with_reducible refine tle_sl ?_ ?_
    | with_reducible refine tle_nil ?_
    | ((with_reducible apply tle_ownd); rotate_left; · first | rfl | exact rfl; rotate_right)
    | with_reducible refine tle_agg ?_
    | with_reducible refine tle_tup ?_
    | with_reducible exact csle_nil
    | with_reducible refine csle_cons ?_ ?_
    | with_reducible exact tsle_nil
    | with_reducible refine tsle_cons ?_ ?_
    | with_reducible refine cle_int ?_
    | with_reducible refine cle_bool ?_
    | with_reducible refine cle_str ?_
    | ((with_reducible apply cle_own); · first | rfl | exact rfl)
    | ((with_reducible apply cle_nilown); · first | rfl | exact rfl)
    | with_reducible refine cle_sl ?_ ?_
    | with_reducible refine cle_nil ?_
    | ((with_reducible apply cle_ownd); rotate_left; · first | rfl | exact rfl; rotate_right)
    | with_reducible exact cle_rfl
    | ((with_reducible apply ble_vec); · first | rfl | exact rfl; · exact fun h => h)
    | with_reducible refine ble_none ?_
    | ((with_reducible apply ble_box); · first | rfl | exact rfl)
    | ((with_reducible apply tle_ptr); · first | rfl | exact rfl)
    | ((with_reducible apply tle_vptr); · first | rfl | exact rfl)
    | with_reducible exact ble_dead
    | ((with_reducible apply cle_ptr); · first | rfl | exact rfl)
    | with_reducible exact cle_junk
    | with_reducible refine dt_int ?_
    | with_reducible refine dt_bool ?_
    | with_reducible refine dt_str ?_
    | with_reducible refine dt_sl ?_ ?_
    | with_reducible refine dt_nil ?_
    | with_reducible refine dt_agg ?_
    | with_reducible exact dcs_nil
    | with_reducible refine dcs_cons ?_ ?_
    | with_reducible exact dcs_mapn
    | with_reducible refine dcs_mapc ?_ ?_
    | with_reducible exact dl_rfl
    | with_reducible refine dl_int ?_
    | with_reducible refine dl_bool ?_
    | with_reducible refine dl_str ?_
    | with_reducible refine dl_sl ?_ ?_
    | with_reducible refine dl_nil ?_
    | with_reducible exact nth_ne rfl
    | ((with_reducible apply nth_ne); exact rfl)
    | (intro i hi; exact ⟨_, rfl⟩)
    | (intro i hi j hj; first | rfl | (refine pappS hθ (c36 θ) _ _ _ _ i j (by first | exact hi | (simp only [← hθ, Θ, stdP, std] at hi; (try clear hac); (try clear hQl0); (try simp only [ncast, List.length_replicate] at *); omega)) ?_; rcases lt_two hj with rfl | rfl <;> first | rfl | (simp only [← hθ, Θ, stdP, std]; rfl)))
    | (intro i hi j hj; first | rfl | ((obtain rfl : j = 0 := by omega); first | exact plit1 hθ _ _ _ hi | exact papp1 hθ _ _ _ _ (by first | exact hi | (simp only [← hθ, Θ, stdP, std] at hi; (try clear hac); (try clear hQl0); (try simp only [ncast, List.length_replicate] at *); omega)) | ((try rw [pset hθ]); (try rw [psetz hθ]); (try rw [papp hθ]); (try rw [pover hθ]); (try rw [pover1 hθ]); (try rw [poverz hθ _ _ _ _ _ rfl]); (simp only [Int.zero_sub, condEq, decTrue, nstr2, nbl, nrdB, ← hθ, Θ, stdP, std, cmpI, ari, shf, una, mxI, nw64, nw8, nshr, nshl, nbyte, nmx, nmn, nrd, n_T36, n_T38, repD, repDB, condSelf] at hi ⊢); first | done | rfl | (refine scC ?_; first | rfl | exact setD _ _ _ _ (by (try clear hac); (try clear hQl0); (try simp only [ncast, List.length_replicate] at *); omega) | exact setDz _ _ _ _ (by (try clear hac); (try clear hQl0); (try simp only [ncast, List.length_replicate] at *); omega) | exact appD _ _ _ | exact padD _ _ _ | exact nbo _ _) | (refine scB ?_; first | rfl | exact setDB _ _ _ _ (by (try clear hac); (try clear hQl0); (try simp only [ncast, List.length_replicate] at *); omega) | exact setDBz _ _ _ _ (by (try clear hac); (try clear hQl0); (try simp only [ncast, List.length_replicate] at *); omega)) | fail)))
    | rfl
    | (simp only [Int.zero_sub, condEq, decTrue, nstr2, nbl, nrdB, ← hθ, Θ, stdP, std, cmpI, ari, shf, una, mxI, nw64, nw8, nshr, nshl, nbyte, nmx, nmn, nrd, n_T36, n_T38]; done)
    | ((try simp only [Int.zero_sub, condEq, decTrue, nstr2, nbl, nrdB, ← hθ, Θ, stdP, std, cmpI, ari, shf, una, mxI, nw64, nw8, nshr, nshl, nbyte, nmx, nmn, nrd, n_T36, n_T38, true_and, and_true]); (try clear hac); (try clear hQl0); (try simp only [ncast] at *); first | trivial | omega | (refine ⟨?_, ?_⟩ <;> omega) | (refine ⟨?_, ?_, ?_, ?_⟩ <;> omega) | (simp; done) | (simp; omega) | fail)
set_option maxHeartbeats 4000000 in
theorem ac_bucketlineref18_Degree {k : Nat} {l0 : List (S36)} {l1 : List Int} {r : Int} (h : bucketlineref18_Degree.f k l0 l1 = some r) : AC Tryd.prog N0 G0 18 [] [.c (.d (est_36 Θ l0)), .c (.d (eI Θ .i64 l1))] [] (.c (.d (.sc (.int .i64 r)))) := by
  refine ac_mk Tryd.func18 rfl (by decide) rfl ?_
  generalize hθ : Θ = θ
  rw [bucketlineref18_Degree.f] at h
  cbv
  repeat' first
    | ((with_reducible refine pre_and ?_ ?_); rotate_left; (try cbv))
    | with_reducible exact noneO h
    | ((with_reducible replace h := iteO h); rcases h with ⟨hc, h⟩ | ⟨hc, h⟩ <;> (try simp only [decide_eq_true_eq, decide_eq_false_iff_not, beq_iff_eq, bne_iff_ne, beq_eq_false_iff_ne, bne_eq_false_iff_eq, ne_eq, Bool.not_eq_true', Bool.not_eq_false', Bool.not_eq_true, Bool.not_eq_false, Bool.and_eq_true, gt_iff_lt, ge_iff_le, Int.not_lt, Int.not_le] at hc))
    | with_reducible replace h := someB h
    | ((with_reducible replace h := bindO h); obtain ⟨t, ht, h⟩ := h; have hac := ac_bucketlineref18_sum ht; (try rw [hθ] at hac); refine call_rule' hθ hac rfl rfl ?_ rfl ?_; clear hac; rotate_left; (try cbv))
    | ((with_reducible replace h := bindO h); obtain ⟨t, ht, h⟩ := h; have hac := ac_bucketlineref01_Count ht; (try rw [hθ] at hac); refine call_rule' hθ hac rfl rfl ?_ rfl ?_; clear hac; rotate_left; (try cbv))
    | ((with_reducible replace h := Option.some.inj h); subst h; simp only [← hθ, Θ, stdP, std]; refine exp_of0 ?_)
    | (split <;> (try (rename_i heq; simp only [Int.zero_sub, condEq, decTrue, nstr2, nbl, nrdB, ← hθ, Θ, stdP, std, cmpI, ari, shf, una, mxI, nw64, nw8, nshr, nshl, nbyte, nmx, nmn, nrd, n_T36, n_T38, decide_eq_true_eq, decide_eq_false_iff_not, beq_iff_eq, bne_iff_ne, beq_eq_false_iff_ne, bne_eq_false_iff_eq, ne_eq, Bool.not_eq_true', Bool.not_eq_false', Bool.not_eq_true, Bool.not_eq_false, Bool.and_eq_true, gt_iff_lt, ge_iff_le, Int.not_lt, Int.not_le] at heq)) <;> first | (exfalso; (try clear hac); (try simp only [ncast, List.length_replicate] at *); omega) | (exfalso; rw [heq] at hc; cases hc; done) | (exfalso; exact absurd hc heq) | (exfalso; exact absurd heq hc) | (exfalso; (try clear hac); simp_all; done) | (try cbv))
  iterate 3 all_goals repeat' first
    | with_reducible exact esle_nil
    | ((with_reducible apply esle_c); · first | rfl | exact rfl)
    | ((with_reducible apply esle_a); · first | rfl | exact rfl)
    | with_reducible exact bsle_nil
    | with_reducible refine bsle_cons ?_ ?_
    | with_reducible exact dts_nil
    | with_reducible refine dts_cons ?_ ?_
    | with_reducible refine tle_int ?_
    | with_reducible refine tle_bool ?_
    | with_reducible refine tle_str ?_
    | ((with_reducible apply tle_own); · first | rfl | exact rfl)
    | ((with_reducible apply tle_nilown); · first | rfl | exact rfl)
    | with_reducible refine tle_sl ?_ ?_
    | with_reducible refine tle_nil ?_
    | ((with_reducible apply tle_ownd); rotate_left; · first | rfl | exact rfl; rotate_right)
    | with_reducible refine tle_agg ?_
    | with_reducible refine tle_tup ?_
    | with_reducible exact csle_nil
    | with_reducible refine csle_cons ?_ ?_
    | with_reducible exact tsle_nil
    | with_reducible refine tsle_cons ?_ ?_
    | with_reducible refine cle_int ?_
    | with_reducible refine cle_bool ?_
    | with_reducible refine cle_str ?_
    | ((with_reducible apply cle_own); · first | rfl | exact rfl)
    | ((with_reducible apply cle_nilown); · first | rfl | exact rfl)
    | with_reducible refine cle_sl ?_ ?_
    | with_reducible refine cle_nil ?_
    | ((with_reducible apply cle_ownd); rotate_left; · first | rfl | exact rfl; rotate_right)
    | with_reducible exact cle_rfl
    | ((with_reducible apply ble_vec); · first | rfl | exact rfl; · exact fun h => h)
    | with_reducible refine ble_none ?_
    | ((with_reducible apply ble_box); · first | rfl | exact rfl)
    | ((with_reducible apply tle_ptr); · first | rfl | exact rfl)
    | ((with_reducible apply tle_vptr); · first | rfl | exact rfl)
    | with_reducible exact ble_dead
    | ((with_reducible apply cle_ptr); · first | rfl | exact rfl)
    | with_reducible exact cle_junk
    | with_reducible refine dt_int ?_
    | with_reducible refine dt_bool ?_
    | with_reducible refine dt_str ?_
    | with_reducible refine dt_sl ?_ ?_
    | with_reducible refine dt_nil ?_
    | with_reducible refine dt_agg ?_
    | with_reducible exact dcs_nil
    | with_reducible refine dcs_cons ?_ ?_
    | with_reducible exact dcs_mapn
    | with_reducible refine dcs_mapc ?_ ?_
    | with_reducible exact dl_rfl
    | with_reducible refine dl_int ?_
    | with_reducible refine dl_bool ?_
    | with_reducible refine dl_str ?_
    | with_reducible refine dl_sl ?_ ?_
    | with_reducible refine dl_nil ?_
    | with_reducible exact nth_ne rfl
    | ((with_reducible apply nth_ne); exact rfl)
    | (intro i hi; exact ⟨_, rfl⟩)
    | (intro i hi j hj; first | rfl | ((obtain rfl : j = 0 := by omega); first | exact plit1 hθ _ _ _ hi | exact papp1 hθ _ _ _ _ (by first | exact hi | (simp only [← hθ, Θ, stdP, std] at hi; (try clear hac); (try simp only [ncast, List.length_replicate] at *); omega)) | ((try rw [pset hθ]); (try rw [psetz hθ]); (try rw [papp hθ]); (try rw [pover hθ]); (try rw [pover1 hθ]); (try rw [poverz hθ _ _ _ _ _ rfl]); (simp only [Int.zero_sub, condEq, decTrue, nstr2, nbl, nrdB, ← hθ, Θ, stdP, std, cmpI, ari, shf, una, mxI, nw64, nw8, nshr, nshl, nbyte, nmx, nmn, nrd, n_T36, n_T38, repD, repDB, condSelf] at hi ⊢); first | done | rfl | (refine scC ?_; first | rfl | exact setD _ _ _ _ (by (try clear hac); (try simp only [ncast, List.length_replicate] at *); omega) | exact setDz _ _ _ _ (by (try clear hac); (try simp only [ncast, List.length_replicate] at *); omega) | exact appD _ _ _ | exact padD _ _ _ | exact nbo _ _) | (refine scB ?_; first | rfl | exact setDB _ _ _ _ (by (try clear hac); (try simp only [ncast, List.length_replicate] at *); omega) | exact setDBz _ _ _ _ (by (try clear hac); (try simp only [ncast, List.length_replicate] at *); omega)) | fail)))
    | rfl
    | (simp only [Int.zero_sub, condEq, decTrue, nstr2, nbl, nrdB, ← hθ, Θ, stdP, std, cmpI, ari, shf, una, mxI, nw64, nw8, nshr, nshl, nbyte, nmx, nmn, nrd, n_T36, n_T38]; done)
    | ((try simp only [Int.zero_sub, condEq, decTrue, nstr2, nbl, nrdB, ← hθ, Θ, stdP, std, cmpI, ari, shf, una, mxI, nw64, nw8, nshr, nshl, nbyte, nmx, nmn, nrd, n_T36, n_T38, true_and, and_true]); (try clear hac); (try simp only [ncast] at *); first | trivial | omega | (refine ⟨?_, ?_⟩ <;> omega) | (refine ⟨?_, ?_, ?_, ?_⟩ <;> omega) | (simp; done) | (simp; omega) | fail)
end Go.Proofs.YtlpcphndgjibpaaDoor.Rx
