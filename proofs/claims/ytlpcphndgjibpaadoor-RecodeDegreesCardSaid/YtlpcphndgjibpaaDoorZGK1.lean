/- Written by wip/gen/tie.py: what the program's functions come to, by the plain functions of the same names. No condition. -/
import Derived.Test.YtlpcphndgjibpaaDoorZGK0
namespace Go.Proofs.YtlpcphndgjibpaaDoor.Rx
open Go Go.Proofs Go.Proofs.YtlpcphndgjibpaaDoor.P Go.RowKit Go.Proofs.YtlpcphndgjibpaaDoorW.PrintWords Go.Proofs.YtlpcphndgjibpaaDoorW.PrintLast Go.Proofs.YtlpcphndgjibpaaDoorW.PrintMore
set_option linter.unusedVariables false
set_option linter.unusedSimpArgs false
set_option maxRecDepth 100000
theorem xor_into.j0_s {r : List Int} : ∀ {k : Nat} {x0 : List Int} {x1 : ByteArray}, xor_into.j0 k x0 x1 = some r → ∃ q, q < k ∧ (xor_into.l0 q x0 x1 (x1.size : Int) 0) = some r
  | 0, _, _, h => by cases h
  | k + 1, _, _, h => ⟨k, Nat.lt_succ_self k, h⟩
theorem xor_into.l0_s {r : List Int} : ∀ {k : Nat} {x0 : List Int} {x1 : ByteArray} {x20 : Int} {x21 : Int}, xor_into.l0 k x0 x1 x20 x21 = some r → ∃ q, q < k ∧ (if x21 < x20 then (if 0 ≤ x21 then (if x21 < (x0.length : Int) then (if x21 < (x1.size : Int) then (xor_into.l0 q (x0.set (x21 : Int).toNat (Go.bits .xor .u8 (rd x0 x21) (bt x1 x21))) x1 x20 (wrap64 (x21 + 1))) else (none)) else (none)) else (none)) else (some x0)) = some r
  | 0, _, _, _, _, h => by cases h
  | k + 1, _, _, _, _, h => ⟨k, Nat.lt_succ_self k, h⟩
set_option maxHeartbeats 4000000 in
theorem ac_xor_into_a {k : Nat} {l0 : List Int} {a1 : ByteArray} {r : List Int} (h : xor_into.f k l0 a1 = some r) (hs : ¬ (a1.size : Int) > (l0.length : Int)) : AC Tryd.prog N0 G0 55 [bI Θ .u8 5 l0] [.c (.own 0 (Θ.len l0)), .c (.d (.sc (.string a1)))] [bI Θ .u8 5 r] (.c (.own 0 (Θ.len r))) := by
  refine ac_mk Tryd.func55 rfl (by decide) rfl ?_
  generalize hθ : Θ = θ
  rw [xor_into.f] at h
  cbv
  repeat' first
    | ((with_reducible refine pre_and ?_ ?_); rotate_left; (try cbv))
    | with_reducible exact noneO h
    | ((with_reducible replace h := iteO h); rcases h with ⟨hc, h⟩ | ⟨hc, h⟩ <;> (try simp only [decide_eq_true_eq, decide_eq_false_iff_not, beq_iff_eq, bne_iff_ne, beq_eq_false_iff_ne, bne_eq_false_iff_eq, ne_eq, Bool.not_eq_true', Bool.not_eq_false', Bool.not_eq_true, Bool.not_eq_false, Bool.and_eq_true, gt_iff_lt, ge_iff_le, Int.not_lt, Int.not_le] at hc))
    | with_reducible replace h := someB h
    | ((with_reducible replace h := xor_into.j0_s h); obtain ⟨k, hk, h⟩ := h)
    | with_reducible refine hQl0 _ _ _ (by omega) ⟨_, _, _, _, h, rfl⟩ ?_
    | ((with_reducible refine loopI hθ (fun k s => ∃ (x0 : List Int) (x1 : ByteArray) (x20 : Int) (x21 : Int), xor_into.l0 k x0 x1 x20 x21 = some r ∧ s = ⟨envL [(0, .c (.own 0 (θ.len x0))), (1, .c (.d (.sc (.string x1)))), (20, .c (.d (.sc (.int .i64 x20)))), (21, .c (.d (.sc (.int .i64 x21))))], arOf [bI θ .u8 5 x0], 1, 35, 1⟩) ⟨_, _, _, _, h, rfl⟩ ?_ ?_); rotate_left; (rintro m _ Ql0 hm ⟨x0, x1, x20, x21, h, rfl⟩ hQl0; replace h := xor_into.l0_s h; obtain ⟨k, hk, h⟩ := h; cbv))
    | ((with_reducible replace h := Option.some.inj h); subst h; simp only [← hθ, Θ, stdP, std]; apply exp_of1p)
    | (split <;> (try (rename_i heq; simp only [Int.zero_sub, condEq, decTrue, nstr2, nbl, nrdB, ← hθ, Θ, stdP, std, cmpI, ari, shf, una, mxI, nw64, nw8, nshr, nshl, nbyte, nmx, nmn, nrd, n_T36, n_T38, decide_eq_true_eq, decide_eq_false_iff_not, beq_iff_eq, bne_iff_ne, beq_eq_false_iff_ne, bne_eq_false_iff_eq, ne_eq, Bool.not_eq_true', Bool.not_eq_false', Bool.not_eq_true, Bool.not_eq_false, Bool.and_eq_true, gt_iff_lt, ge_iff_le, Int.not_lt, Int.not_le] at heq)) <;> first | (exfalso; (try clear hac); (try clear hQl0); (try simp only [ncast, List.length_replicate] at *); omega) | (exfalso; rw [heq] at hc; cases hc; done) | (exfalso; exact absurd hc heq) | (exfalso; exact absurd heq hc) | (exfalso; (try clear hac); (try clear hQl0); simp_all; done) | (try cbv))
  iterate 3 all_goals repeat' first
    | with_reducible refine sub_of0 ?_ rfl
    | with_reducible apply sub_of1p
    | with_reducible apply sub_of2p
    | with_reducible apply sub_of3
    | with_reducible exact esle_nil
    | ((with_reducible apply esle_c); · first | rfl | exact rfl)
    | ((with_reducible apply esle_a); · first | rfl | exact rfl)
    | with_reducible exact bsle_nil
    | with_reducible refine bsle_cons ?_ ?_
    | with_reducible exact dts_nil
    | with_reducible refine dts_cons ?_ ?_
    | with_reducible refine tle_int ?_
    | with_reducible refine tle_bool ?_
    | with_reducible refine tle_str ?_
    | ((with_reducible apply tle_own); · first | rfl | exact rfl)
    | ((with_reducible apply tle_nilown); · first | rfl | exact rfl)
    | with_reducible refine tle_sl ?_ ?_
    | with_reducible refine tle_nil ?_
    | ((with_reducible apply tle_ownd); rotate_left; · first | rfl | exact rfl; rotate_right)
    | ((with_reducible apply ble_vec); · first | rfl | exact rfl; · exact fun h => h)
    | with_reducible refine ble_none ?_
    | ((with_reducible apply ble_box); · first | rfl | exact rfl)
    | ((with_reducible apply tle_ptr); · first | rfl | exact rfl)
    | ((with_reducible apply tle_vptr); · first | rfl | exact rfl)
    | with_reducible exact ble_dead
    | ((with_reducible apply cle_ptr); · first | rfl | exact rfl)
    | with_reducible exact cle_junk
    | with_reducible refine dt_int ?_
    | with_reducible refine dt_bool ?_
    | with_reducible refine dt_str ?_
    | with_reducible refine dt_sl ?_ ?_
    | with_reducible refine dt_nil ?_
    | with_reducible exact nth_ne rfl
    | ((with_reducible apply nth_ne); exact rfl)
    | (intro i hi; exact ⟨_, rfl⟩)
    | (intro i hi j hj; first | rfl | ((obtain rfl : j = 0 := by omega); first | exact plit1 hθ _ _ _ hi | exact papp1 hθ _ _ _ _ (by first | exact hi | (simp only [← hθ, Θ, stdP, std] at hi; (try clear hac); (try clear hQl0); (try simp only [ncast, List.length_replicate] at *); omega)) | ((try rw [pset hθ]); (try rw [psetz hθ]); (try rw [papp hθ]); (try rw [pover hθ]); (try rw [pover1 hθ]); (try rw [poverz hθ _ _ _ _ _ rfl]); (simp only [Int.zero_sub, condEq, decTrue, nstr2, nbl, nrdB, ← hθ, Θ, stdP, std, cmpI, ari, shf, una, mxI, nw64, nw8, nshr, nshl, nbyte, nmx, nmn, nrd, n_T36, n_T38, repD, repDB, condSelf] at hi ⊢); first | done | rfl | (refine scC ?_; first | rfl | exact setD _ _ _ _ (by (try clear hac); (try clear hQl0); (try simp only [ncast, List.length_replicate] at *); omega) | exact setDz _ _ _ _ (by (try clear hac); (try clear hQl0); (try simp only [ncast, List.length_replicate] at *); omega) | exact appD _ _ _ | exact padD _ _ _ | exact nbo _ _) | (refine scB ?_; first | rfl | exact setDB _ _ _ _ (by (try clear hac); (try clear hQl0); (try simp only [ncast, List.length_replicate] at *); omega) | exact setDBz _ _ _ _ (by (try clear hac); (try clear hQl0); (try simp only [ncast, List.length_replicate] at *); omega)) | fail)))
    | rfl
    | (simp only [Int.zero_sub, condEq, decTrue, nstr2, nbl, nrdB, ← hθ, Θ, stdP, std, cmpI, ari, shf, una, mxI, nw64, nw8, nshr, nshl, nbyte, nmx, nmn, nrd, n_T36, n_T38]; done)
    | ((try simp only [Int.zero_sub, condEq, decTrue, nstr2, nbl, nrdB, ← hθ, Θ, stdP, std, cmpI, ari, shf, una, mxI, nw64, nw8, nshr, nshl, nbyte, nmx, nmn, nrd, n_T36, n_T38, true_and, and_true]); (try clear hac); (try clear hQl0); (try simp only [ncast] at *); first | trivial | omega | (refine ⟨?_, ?_⟩ <;> omega) | (refine ⟨?_, ?_, ?_, ?_⟩ <;> omega) | (simp; done) | (simp; omega) | fail)
set_option maxHeartbeats 4000000 in
theorem ac_xor_into_b {k : Nat} {l0 : List Int} {a1 : ByteArray} {r : List Int} (h : xor_into.f k l0 a1 = some r) (hs : (a1.size : Int) > (l0.length : Int)) : AC Tryd.prog N0 G0 55 [bI Θ .u8 5 l0] [.c (.own 0 (Θ.len l0)), .c (.d (.sc (.string a1)))] [.dead, bI Θ .u8 5 r] (.c (.own 1 (Θ.len r))) := by
  refine ac_mk Tryd.func55 rfl (by decide) rfl ?_
  generalize hθ : Θ = θ
  rw [xor_into.f] at h
  cbv
  repeat' first
    | ((with_reducible refine pre_and ?_ ?_); rotate_left; (try cbv))
    | with_reducible exact noneO h
    | ((with_reducible replace h := iteO h); rcases h with ⟨hc, h⟩ | ⟨hc, h⟩ <;> (try simp only [decide_eq_true_eq, decide_eq_false_iff_not, beq_iff_eq, bne_iff_ne, beq_eq_false_iff_ne, bne_eq_false_iff_eq, ne_eq, Bool.not_eq_true', Bool.not_eq_false', Bool.not_eq_true, Bool.not_eq_false, Bool.and_eq_true, gt_iff_lt, ge_iff_le, Int.not_lt, Int.not_le] at hc))
    | with_reducible replace h := someB h
    | ((with_reducible replace h := xor_into.j0_s h); obtain ⟨k, hk, h⟩ := h)
    | with_reducible refine hQl0 _ _ _ (by omega) ⟨_, _, _, _, h, rfl⟩ ?_
    | ((with_reducible refine loopI hθ (fun k s => ∃ (x0 : List Int) (x1 : ByteArray) (x20 : Int) (x21 : Int), xor_into.l0 k x0 x1 x20 x21 = some r ∧ s = ⟨envL [(0, .c (.own 1 (θ.len x0))), (1, .c (.d (.sc (.string x1)))), (20, .c (.d (.sc (.int .i64 x20)))), (21, .c (.d (.sc (.int .i64 x21))))], arOf [.dead, bI θ .u8 5 x0], 2, 35, 1⟩) ⟨_, _, _, _, h, rfl⟩ ?_ ?_); rotate_left; (rintro m _ Ql0 hm ⟨x0, x1, x20, x21, h, rfl⟩ hQl0; replace h := xor_into.l0_s h; obtain ⟨k, hk, h⟩ := h; cbv))
    | ((with_reducible replace h := Option.some.inj h); subst h; simp only [← hθ, Θ, stdP, std]; apply exp_of2p)
    | (split <;> (try (rename_i heq; simp only [Int.zero_sub, condEq, decTrue, nstr2, nbl, nrdB, ← hθ, Θ, stdP, std, cmpI, ari, shf, una, mxI, nw64, nw8, nshr, nshl, nbyte, nmx, nmn, nrd, n_T36, n_T38, decide_eq_true_eq, decide_eq_false_iff_not, beq_iff_eq, bne_iff_ne, beq_eq_false_iff_ne, bne_eq_false_iff_eq, ne_eq, Bool.not_eq_true', Bool.not_eq_false', Bool.not_eq_true, Bool.not_eq_false, Bool.and_eq_true, gt_iff_lt, ge_iff_le, Int.not_lt, Int.not_le] at heq)) <;> first | (exfalso; (try clear hac); (try clear hQl0); (try simp only [ncast, List.length_replicate] at *); omega) | (exfalso; rw [heq] at hc; cases hc; done) | (exfalso; exact absurd hc heq) | (exfalso; exact absurd heq hc) | (exfalso; (try clear hac); (try clear hQl0); simp_all; done) | (try cbv))
  iterate 3 all_goals repeat' first
    | with_reducible refine sub_of0 ?_ rfl
    | with_reducible apply sub_of1p
    | with_reducible apply sub_of2p
    | with_reducible apply sub_of3
    | with_reducible exact esle_nil
    | ((with_reducible apply esle_c); · first | rfl | exact rfl)
    | ((with_reducible apply esle_a); · first | rfl | exact rfl)
    | with_reducible exact bsle_nil
    | with_reducible refine bsle_cons ?_ ?_
    | with_reducible exact dts_nil
    | with_reducible refine dts_cons ?_ ?_
    | with_reducible refine tle_int ?_
    | with_reducible refine tle_bool ?_
    | with_reducible refine tle_str ?_
    | ((with_reducible apply tle_own); · first | rfl | exact rfl)
    | ((with_reducible apply tle_nilown); · first | rfl | exact rfl)
    | with_reducible refine tle_sl ?_ ?_
    | with_reducible refine tle_nil ?_
    | ((with_reducible apply tle_ownd); rotate_left; · first | rfl | exact rfl; rotate_right)
    | ((with_reducible apply ble_vec); · first | rfl | exact rfl; · exact fun h => h)
    | with_reducible refine ble_none ?_
    | ((with_reducible apply ble_box); · first | rfl | exact rfl)
    | ((with_reducible apply tle_ptr); · first | rfl | exact rfl)
    | ((with_reducible apply tle_vptr); · first | rfl | exact rfl)
    | with_reducible exact ble_dead
    | ((with_reducible apply cle_ptr); · first | rfl | exact rfl)
    | with_reducible exact cle_junk
    | with_reducible refine dt_int ?_
    | with_reducible refine dt_bool ?_
    | with_reducible refine dt_str ?_
    | with_reducible refine dt_sl ?_ ?_
    | with_reducible refine dt_nil ?_
    | with_reducible exact nth_ne rfl
    | ((with_reducible apply nth_ne); exact rfl)
    | (intro i hi; exact ⟨_, rfl⟩)
    | (intro i hi j hj; first | rfl | ((obtain rfl : j = 0 := by omega); first | exact plit1 hθ _ _ _ hi | exact papp1 hθ _ _ _ _ (by first | exact hi | (simp only [← hθ, Θ, stdP, std] at hi; (try clear hac); (try clear hQl0); (try simp only [ncast, List.length_replicate] at *); omega)) | ((try rw [pset hθ]); (try rw [psetz hθ]); (try rw [papp hθ]); (try rw [pover hθ]); (try rw [pover1 hθ]); (try rw [poverz hθ _ _ _ _ _ rfl]); (simp only [Int.zero_sub, condEq, decTrue, nstr2, nbl, nrdB, ← hθ, Θ, stdP, std, cmpI, ari, shf, una, mxI, nw64, nw8, nshr, nshl, nbyte, nmx, nmn, nrd, n_T36, n_T38, repD, repDB, condSelf] at hi ⊢); first | done | rfl | (refine scC ?_; first | rfl | exact setD _ _ _ _ (by (try clear hac); (try clear hQl0); (try simp only [ncast, List.length_replicate] at *); omega) | exact setDz _ _ _ _ (by (try clear hac); (try clear hQl0); (try simp only [ncast, List.length_replicate] at *); omega) | exact appD _ _ _ | exact padD _ _ _ | exact nbo _ _) | (refine scB ?_; first | rfl | exact setDB _ _ _ _ (by (try clear hac); (try clear hQl0); (try simp only [ncast, List.length_replicate] at *); omega) | exact setDBz _ _ _ _ (by (try clear hac); (try clear hQl0); (try simp only [ncast, List.length_replicate] at *); omega)) | fail)))
    | rfl
    | (simp only [Int.zero_sub, condEq, decTrue, nstr2, nbl, nrdB, ← hθ, Θ, stdP, std, cmpI, ari, shf, una, mxI, nw64, nw8, nshr, nshl, nbyte, nmx, nmn, nrd, n_T36, n_T38]; done)
    | ((try simp only [Int.zero_sub, condEq, decTrue, nstr2, nbl, nrdB, ← hθ, Θ, stdP, std, cmpI, ari, shf, una, mxI, nw64, nw8, nshr, nshl, nbyte, nmx, nmn, nrd, n_T36, n_T38, true_and, and_true]); (try clear hac); (try clear hQl0); (try simp only [ncast] at *); first | trivial | omega | (refine ⟨?_, ?_⟩ <;> omega) | (refine ⟨?_, ?_, ?_, ?_⟩ <;> omega) | (simp; done) | (simp; omega) | fail)
theorem into_len : ∀ {k : Nat} {x0 : List Int} {x1 : ByteArray} {x20 x21 : Int} {r : List Int}, xor_into.l0 k x0 x1 x20 x21 = some r → r.length = x0.length
  | 0, _, _, _, _, _, h => by cases h
  | k + 1, x0, x1, x20, x21, r, h => by
    simp only [xor_into.l0] at h
    rcases iteO h with ⟨_, h⟩ | ⟨_, h⟩
    · rcases iteO h with ⟨_, h⟩ | ⟨_, h⟩
      · rcases iteO h with ⟨_, h⟩ | ⟨_, h⟩
        · rcases iteO h with ⟨_, h⟩ | ⟨_, h⟩
          · rw [into_len h, List.length_set]
          · cases h
        · cases h
      · cases h
    · obtain rfl := Option.some.inj h; rfl
theorem into_same {k : Nat} {l0 : List Int} {a1 : ByteArray} {r : List Int} (h : xor_into.f k l0 a1 = some r) (hs : ¬ (a1.size : Int) > (l0.length : Int)) : r.length = l0.length := by
  rw [xor_into.f, if_neg hs] at h
  obtain ⟨q, _, h⟩ := xor_into.j0_s h
  exact into_len h
theorem ac_xor_into {k : Nat} {l0 : List Int} {a1 : ByteArray} {r : List Int} (h : xor_into.f k l0 a1 = some r) : (r.length = l0.length ∧ AC Tryd.prog N0 G0 55 [bI Θ .u8 5 l0] [.c (.own 0 (Θ.len l0)), .c (.d (.sc (.string a1)))] [bI Θ .u8 5 r] (.c (.own 0 (Θ.len r)))) ∨
    AC Tryd.prog N0 G0 55 [bI Θ .u8 5 l0] [.c (.own 0 (Θ.len l0)), .c (.d (.sc (.string a1)))] [.dead, bI Θ .u8 5 r] (.c (.own 1 (Θ.len r))) := by
  by_cases hs : (a1.size : Int) > (l0.length : Int)
  · exact .inr (ac_xor_into_b h hs)
  · exact .inl ⟨into_same h hs, ac_xor_into_a h hs⟩
theorem xor_Row.l0_s {r : List Int × ByteArray} : ∀ {k : Nat} {x3 : List Int} {x4 : List Int} {x7 : List (S36)} {x8 : Int} {x9 : Int}, xor_Row.l0 k x3 x4 x7 x8 x9 = some r → ∃ q, q < k ∧ (if x9 < x8 then (if 0 ≤ x9 then (if x9 < (x7.length : Int) then ((words_Xor.f q x3 ((rd_T36 x7 x9).f0)).bind fun t121 => ((xor_into.f q x4 ((rd_T36 x7 x9).f1)).bind fun t124 => (xor_Row.l0 q t121 t124 x7 x8 (wrap64 (x9 + 1))))) else (none)) else (none)) else (some (x3, strOfNums x4))) = some r
  | 0, _, _, _, _, _, h => by cases h
  | k + 1, _, _, _, _, _, h => ⟨k, Nat.lt_succ_self k, h⟩
set_option maxHeartbeats 4000000 in
theorem ac_xor_Row {k : Nat} {l0 : List (S36)} {r : List Int × ByteArray} (h : xor_Row.f k l0 = some r) : AC Tryd.prog N0 G0 42 [] [.c (.d (est_36 Θ l0))] [] (.agg [.d (eI Θ .u64 r.1), .d (.sc (.string r.2))]) := by
  refine ac_mk Tryd.func42 rfl (by decide) rfl ?_
  generalize hθ : Θ = θ
  rw [xor_Row.f] at h
  cbv
  repeat' first
    | ((with_reducible refine pre_and ?_ ?_); rotate_left; (try cbv))
    | with_reducible exact noneO h
    | ((with_reducible replace h := iteO h); rcases h with ⟨hc, h⟩ | ⟨hc, h⟩ <;> (try simp only [decide_eq_true_eq, decide_eq_false_iff_not, beq_iff_eq, bne_iff_ne, beq_eq_false_iff_ne, bne_eq_false_iff_eq, ne_eq, Bool.not_eq_true', Bool.not_eq_false', Bool.not_eq_true, Bool.not_eq_false, Bool.and_eq_true, gt_iff_lt, ge_iff_le, Int.not_lt, Int.not_le] at hc))
    | with_reducible replace h := someB h
    | ((with_reducible replace h := bindO h); obtain ⟨t, ht, h⟩ := h; have hac := ac_words_Xor ht; (try rw [hθ] at hac); refine call_rule' hθ hac rfl rfl ?_ rfl ?_; clear hac; rotate_left; (try cbv))
    | ((with_reducible replace h := bindO h); obtain ⟨t, ht, h⟩ := h; rcases ac_xor_into ht with ⟨hl, hac⟩ | hac; all_goals ((try rw [hθ] at hac); refine callG_one hθ 1 hac rfl rfl rfl ?_ ?_ ?_ ?_; clear hac; rotate_left; rotate_left; rotate_left; (try cbv)))
    | with_reducible refine hQl0 _ _ _ (by omega) ⟨_, _, _, _, _, h, rfl⟩ ?_
    | ((with_reducible refine loopI hθ (fun k s => ∃ (x3 : List Int) (x4 : List Int) (x7 : List (S36)) (x8 : Int) (x9 : Int), xor_Row.l0 k x3 x4 x7 x8 x9 = some r ∧ s = ⟨envL [(2, .c (.ptr 0 0)), (3, .c (.d (eI θ .u64 x3))), (4, .c (.own 1 (θ.len x4))), (7, .c (.d (est_36 θ x7))), (8, .c (.d (.sc (.int .i64 x8)))), (9, .c (.d (.sc (.int .i64 x9))))], arOf [Blk.box [.junk, .junk], bI θ .u8 5 x4], 2, 26, 0⟩) ⟨_, _, _, _, _, h, rfl⟩ ?_ ?_); rotate_left; (rintro m _ Ql0 hm ⟨x3, x4, x7, x8, x9, h, rfl⟩ hQl0; replace h := xor_Row.l0_s h; obtain ⟨k, hk, h⟩ := h; cbv))
    | ((with_reducible replace h := Option.some.inj h); subst h; simp only [← hθ, Θ, stdP, std]; refine exp_of0 ?_)
    | (split <;> (try (rename_i heq; simp only [Int.zero_sub, condEq, decTrue, nstr2, nbl, nrdB, ← hθ, Θ, stdP, std, cmpI, ari, shf, una, mxI, nw64, nw8, nshr, nshl, nbyte, nmx, nmn, nrd, n_T36, n_T38, decide_eq_true_eq, decide_eq_false_iff_not, beq_iff_eq, bne_iff_ne, beq_eq_false_iff_ne, bne_eq_false_iff_eq, ne_eq, Bool.not_eq_true', Bool.not_eq_false', Bool.not_eq_true, Bool.not_eq_false, Bool.and_eq_true, gt_iff_lt, ge_iff_le, Int.not_lt, Int.not_le] at heq)) <;> first | (exfalso; (try clear hac); (try clear hQl0); (try simp only [ncast, List.length_replicate] at *); omega) | (exfalso; rw [heq] at hc; cases hc; done) | (exfalso; exact absurd hc heq) | (exfalso; exact absurd heq hc) | (exfalso; (try clear hac); (try clear hQl0); simp_all; done) | (try cbv))
  iterate 3 all_goals repeat' first
    | with_reducible refine sub_of0 ?_ rfl
    | with_reducible apply sub_of1
    | with_reducible apply sub_of2
    | with_reducible apply sub_of3
    | with_reducible exact esle_nil
    | ((with_reducible apply esle_c); · first | rfl | exact rfl)
    | ((with_reducible apply esle_a); · first | rfl | exact rfl)
    | with_reducible exact bsle_nil
    | with_reducible refine bsle_cons ?_ ?_
    | with_reducible exact dts_nil
    | with_reducible refine dts_cons ?_ ?_
    | with_reducible refine tle_int ?_
    | with_reducible refine tle_bool ?_
    | with_reducible refine tle_str ?_
    | ((with_reducible apply tle_own); · first | rfl | exact rfl)
    | ((with_reducible apply tle_nilown); · first | rfl | exact rfl)
    | with_reducible refine tle_sl ?_ ?_
    | with_reducible refine tle_nil ?_
    | ((with_reducible apply tle_ownd); rotate_left; · first | rfl | exact rfl; rotate_right)
    | with_reducible refine tle_agg ?_
    | with_reducible refine tle_tup ?_
    | with_reducible exact csle_nil
    | with_reducible refine csle_cons ?_ ?_
    | with_reducible exact tsle_nil
    | with_reducible refine tsle_cons ?_ ?_
    | with_reducible refine cle_int ?_
    | with_reducible refine cle_bool ?_
    | with_reducible refine cle_str ?_
    | ((with_reducible apply cle_own); · first | rfl | exact rfl)
    | ((with_reducible apply cle_nilown); · first | rfl | exact rfl)
    | with_reducible refine cle_sl ?_ ?_
    | with_reducible refine cle_nil ?_
    | ((with_reducible apply cle_ownd); rotate_left; · first | rfl | exact rfl; rotate_right)
    | with_reducible exact cle_rfl
    | ((with_reducible apply ble_vec); · first | rfl | exact rfl; · exact fun h => h)
    | with_reducible refine ble_none ?_
    | ((with_reducible apply ble_box); · first | rfl | exact rfl)
    | ((with_reducible apply tle_ptr); · first | rfl | exact rfl)
    | ((with_reducible apply tle_vptr); · first | rfl | exact rfl)
    | with_reducible exact ble_dead
    | ((with_reducible apply cle_ptr); · first | rfl | exact rfl)
    | with_reducible exact cle_junk
    | with_reducible refine dt_int ?_
    | with_reducible refine dt_bool ?_
    | with_reducible refine dt_str ?_
    | with_reducible refine dt_sl ?_ ?_
    | with_reducible refine dt_nil ?_
    | with_reducible refine dt_agg ?_
    | with_reducible exact dcs_nil
    | with_reducible refine dcs_cons ?_ ?_
    | with_reducible exact dcs_mapn
    | with_reducible refine dcs_mapc ?_ ?_
    | with_reducible exact dl_rfl
    | with_reducible refine dl_int ?_
    | with_reducible refine dl_bool ?_
    | with_reducible refine dl_str ?_
    | with_reducible refine dl_sl ?_ ?_
    | with_reducible refine dl_nil ?_
    | with_reducible exact nth_ne rfl
    | ((with_reducible apply nth_ne); exact rfl)
    | (intro i hi; exact ⟨_, rfl⟩)
    | with_reducible exact oks_nil
    | with_reducible refine oks_vec ?_ ?_
    | with_reducible refine oks_dead ?_
    | (intro i hi j hj; first | rfl | ((obtain rfl : j = 0 := by omega); first | exact plit1 hθ _ _ _ hi | exact papp1 hθ _ _ _ _ (by first | exact hi | (simp only [← hθ, Θ, stdP, std] at hi; (try clear hac); (try clear hQl0); (try simp only [ncast, List.length_replicate] at *); omega)) | ((try rw [pset hθ]); (try rw [psetz hθ]); (try rw [papp hθ]); (try rw [pover hθ]); (try rw [pover1 hθ]); (try rw [poverz hθ _ _ _ _ _ rfl]); (simp only [Int.zero_sub, condEq, decTrue, nstr2, nbl, nrdB, ← hθ, Θ, stdP, std, cmpI, ari, shf, una, mxI, nw64, nw8, nshr, nshl, nbyte, nmx, nmn, nrd, n_T36, n_T38, repD, repDB, condSelf] at hi ⊢); first | done | rfl | (refine scC ?_; first | rfl | exact setD _ _ _ _ (by (try clear hac); (try clear hQl0); (try simp only [ncast, List.length_replicate] at *); omega) | exact setDz _ _ _ _ (by (try clear hac); (try clear hQl0); (try simp only [ncast, List.length_replicate] at *); omega) | exact appD _ _ _ | exact padD _ _ _ | exact nbo _ _) | (refine scB ?_; first | rfl | exact setDB _ _ _ _ (by (try clear hac); (try clear hQl0); (try simp only [ncast, List.length_replicate] at *); omega) | exact setDBz _ _ _ _ (by (try clear hac); (try clear hQl0); (try simp only [ncast, List.length_replicate] at *); omega)) | fail)))
    | rfl
    | (simp only [Int.zero_sub, condEq, decTrue, nstr2, nbl, nrdB, ← hθ, Θ, stdP, std, cmpI, ari, shf, una, mxI, nw64, nw8, nshr, nshl, nbyte, nmx, nmn, nrd, n_T36, n_T38]; done)
    | ((try simp only [Int.zero_sub, condEq, decTrue, nstr2, nbl, nrdB, ← hθ, Θ, stdP, std, cmpI, ari, shf, una, mxI, nw64, nw8, nshr, nshl, nbyte, nmx, nmn, nrd, n_T36, n_T38, true_and, and_true]); (try clear hac); (try clear hQl0); (try simp only [ncast] at *); first | trivial | omega | (refine ⟨?_, ?_⟩ <;> omega) | (refine ⟨?_, ?_, ?_, ?_⟩ <;> omega) | (simp; done) | (simp; omega) | fail)
theorem recode_mix.l0_s {r : List Int × ByteArray} : ∀ {k : Nat} {x0 : List (S36)} {x5 : List (S36)} {x8 : List Int} {x9 : Int} {x10 : Int}, recode_mix.l0 k x0 x5 x8 x9 x10 = some r → ∃ q, q < k ∧ (if x10 < x9 then (if 0 ≤ x10 then (if x10 < (x8.length : Int) then (if (rd x8 x10) ≥ 0 then (if (rd x8 x10) < (x0.length : Int) then (if 0 ≤ (rd x8 x10) then (if x5.length < 3518437208883 then (recode_mix.l0 q x0 (x5 ++ [(⟨(rd_T36 x0 (rd x8 x10)).f0, (rd_T36 x0 (rd x8 x10)).f1⟩ : S36)]) x8 x9 (wrap64 (x10 + 1))) else (none)) else (none)) else (recode_mix.l0 q x0 x5 x8 x9 (wrap64 (x10 + 1)))) else (recode_mix.l0 q x0 x5 x8 x9 (wrap64 (x10 + 1)))) else (none)) else (none)) else ((xor_Row.f q x5).bind fun bt133 => (some (bt133.1, bt133.2)))) = some r
  | 0, _, _, _, _, _, h => by cases h
  | k + 1, _, _, _, _, _, h => ⟨k, Nat.lt_succ_self k, h⟩
set_option maxHeartbeats 4000000 in
theorem ac_recode_mix {k : Nat} {l0 : List (S36)} {l1 : List Int} {r : List Int × ByteArray} (h : recode_mix.f k l0 l1 = some r) : AC Tryd.prog N0 G0 39 [] [.c (.d (est_36 Θ l0)), .c (.d (eI Θ .i64 l1))] [] (.agg [.d (eI Θ .u64 r.1), .d (.sc (.string r.2))]) := by
  refine ac_mk Tryd.func39 rfl (by decide) rfl ?_
  generalize hθ : Θ = θ
  rw [recode_mix.f] at h
  cbv
  repeat' first
    | ((with_reducible refine pre_and ?_ ?_); rotate_left; (try cbv))
    | with_reducible exact noneO h
    | ((with_reducible replace h := iteO h); rcases h with ⟨hc, h⟩ | ⟨hc, h⟩ <;> (try simp only [decide_eq_true_eq, decide_eq_false_iff_not, beq_iff_eq, bne_iff_ne, beq_eq_false_iff_ne, bne_eq_false_iff_eq, ne_eq, Bool.not_eq_true', Bool.not_eq_false', Bool.not_eq_true, Bool.not_eq_false, Bool.and_eq_true, gt_iff_lt, ge_iff_le, Int.not_lt, Int.not_le] at hc))
    | with_reducible replace h := someB h
    | ((with_reducible replace h := bindO h); obtain ⟨t, ht, h⟩ := h; have hac := ac_xor_Row ht; (try rw [hθ] at hac); refine call_rule' hθ hac rfl rfl ?_ rfl ?_; clear hac; rotate_left; (try cbv))
    | with_reducible refine hQl0 _ _ _ (by omega) ⟨_, _, _, _, _, h, rfl⟩ ?_
    | ((with_reducible refine loopI hθ (fun k s => ∃ (x0 : List (S36)) (x5 : List (S36)) (x8 : List Int) (x9 : Int) (x10 : Int), recode_mix.l0 k x0 x5 x8 x9 x10 = some r ∧ s = ⟨envL [(4, .c (.ptr 0 0)), (0, .c (.d (est_36 θ x0))), (5, .c (.own 1 (θ.len x5))), (8, .c (.d (eI θ .i64 x8))), (9, .c (.d (.sc (.int .i64 x9)))), (10, .c (.d (.sc (.int .i64 x10))))], arOf [Blk.box [.junk, .junk], bst_36 θ x5], 2, 32, 0⟩) ⟨_, _, _, _, _, h, rfl⟩ ?_ ?_); rotate_left; (rintro m _ Ql0 hm ⟨x0, x5, x8, x9, x10, h, rfl⟩ hQl0; replace h := recode_mix.l0_s h; obtain ⟨k, hk, h⟩ := h; cbv))
    | ((with_reducible replace h := Option.some.inj h); subst h; simp only [← hθ, Θ, stdP, std]; refine exp_of0 ?_)
    | (split <;> (try (rename_i heq; simp only [Int.zero_sub, condEq, decTrue, nstr2, nbl, nrdB, ← hθ, Θ, stdP, std, cmpI, ari, shf, una, mxI, nw64, nw8, nshr, nshl, nbyte, nmx, nmn, nrd, n_T36, n_T38, decide_eq_true_eq, decide_eq_false_iff_not, beq_iff_eq, bne_iff_ne, beq_eq_false_iff_ne, bne_eq_false_iff_eq, ne_eq, Bool.not_eq_true', Bool.not_eq_false', Bool.not_eq_true, Bool.not_eq_false, Bool.and_eq_true, gt_iff_lt, ge_iff_le, Int.not_lt, Int.not_le] at heq)) <;> first | (exfalso; (try clear hac); (try clear hQl0); (try simp only [ncast, List.length_replicate] at *); omega) | (exfalso; rw [heq] at hc; cases hc; done) | (exfalso; exact absurd hc heq) | (exfalso; exact absurd heq hc) | (exfalso; (try clear hac); (try clear hQl0); simp_all; done) | (try cbv))
  iterate 3 all_goals repeat' first
    | with_reducible refine sub_of0 ?_ rfl
    | with_reducible apply sub_of1
    | with_reducible apply sub_of2
    | with_reducible apply sub_of3
    | with_reducible exact esle_nil
    | ((with_reducible apply esle_c); · first | rfl | exact rfl)
    | ((with_reducible apply esle_a); · first | rfl | exact rfl)
    | with_reducible exact bsle_nil
    | with_reducible refine bsle_cons ?_ ?_
    | with_reducible exact dts_nil
    | with_reducible refine dts_cons ?_ ?_
    | with_reducible refine tle_int ?_
    | with_reducible refine tle_bool ?_
    | with_reducible refine tle_str ?_
    | ((with_reducible apply tle_own); · first | rfl | exact rfl)
    | ((with_reducible apply tle_nilown); · first | rfl | exact rfl)
    | with_reducible refine tle_sl ?_ ?_
    | with_reducible refine tle_nil ?_
    | ((with_reducible apply tle_ownd); rotate_left; · first | rfl | exact rfl; rotate_right)
    | with_reducible refine tle_agg ?_
    | with_reducible refine tle_tup ?_
    | with_reducible exact csle_nil
    | with_reducible refine csle_cons ?_ ?_
    | with_reducible exact tsle_nil
    | with_reducible refine tsle_cons ?_ ?_
    | with_reducible refine cle_int ?_
    | with_reducible refine cle_bool ?_
    | with_reducible refine cle_str ?_
    | ((with_reducible apply cle_own); · first | rfl | exact rfl)
    | ((with_reducible apply cle_nilown); · first | rfl | exact rfl)
    | with_reducible refine cle_sl ?_ ?_
    | with_reducible refine cle_nil ?_
    | ((with_reducible apply cle_ownd); rotate_left; · first | rfl | exact rfl; rotate_right)
    | with_reducible exact cle_rfl
    | ((with_reducible apply ble_vec); · first | rfl | exact rfl; · exact fun h => h)
    | with_reducible refine ble_none ?_
    | ((with_reducible apply ble_box); · first | rfl | exact rfl)
    | ((with_reducible apply tle_ptr); · first | rfl | exact rfl)
    | ((with_reducible apply tle_vptr); · first | rfl | exact rfl)
    | with_reducible exact ble_dead
    | ((with_reducible apply cle_ptr); · first | rfl | exact rfl)
    | with_reducible exact cle_junk
    | with_reducible refine dt_int ?_
    | with_reducible refine dt_bool ?_
    | with_reducible refine dt_str ?_
    | with_reducible refine dt_sl ?_ ?_
    | with_reducible refine dt_nil ?_
    | with_reducible refine dt_agg ?_
    | with_reducible exact dcs_nil
    | with_reducible refine dcs_cons ?_ ?_
    | with_reducible exact dcs_mapn
    | with_reducible refine dcs_mapc ?_ ?_
    | with_reducible exact dl_rfl
    | with_reducible refine dl_int ?_
    | with_reducible refine dl_bool ?_
    | with_reducible refine dl_str ?_
    | with_reducible refine dl_sl ?_ ?_
    | with_reducible refine dl_nil ?_
    | with_reducible exact nth_ne rfl
    | ((with_reducible apply nth_ne); exact rfl)
    | (intro i hi; exact ⟨_, rfl⟩)
    | (intro i hi j hj; first | rfl | (refine pappS hθ (c36 θ) _ _ _ _ i j (by first | exact hi | (simp only [← hθ, Θ, stdP, std] at hi; (try clear hac); (try clear hQl0); (try simp only [ncast, List.length_replicate] at *); omega)) ?_; rcases lt_two hj with rfl | rfl <;> first | rfl | (simp only [← hθ, Θ, stdP, std]; rfl)))
    | (intro i hi j hj; first | rfl | ((obtain rfl : j = 0 := by omega); first | exact plit1 hθ _ _ _ hi | exact papp1 hθ _ _ _ _ (by first | exact hi | (simp only [← hθ, Θ, stdP, std] at hi; (try clear hac); (try clear hQl0); (try simp only [ncast, List.length_replicate] at *); omega)) | ((try rw [pset hθ]); (try rw [psetz hθ]); (try rw [papp hθ]); (try rw [pover hθ]); (try rw [pover1 hθ]); (try rw [poverz hθ _ _ _ _ _ rfl]); (simp only [Int.zero_sub, condEq, decTrue, nstr2, nbl, nrdB, ← hθ, Θ, stdP, std, cmpI, ari, shf, una, mxI, nw64, nw8, nshr, nshl, nbyte, nmx, nmn, nrd, n_T36, n_T38, repD, repDB, condSelf] at hi ⊢); first | done | rfl | (refine scC ?_; first | rfl | exact setD _ _ _ _ (by (try clear hac); (try clear hQl0); (try simp only [ncast, List.length_replicate] at *); omega) | exact setDz _ _ _ _ (by (try clear hac); (try clear hQl0); (try simp only [ncast, List.length_replicate] at *); omega) | exact appD _ _ _ | exact padD _ _ _ | exact nbo _ _) | (refine scB ?_; first | rfl | exact setDB _ _ _ _ (by (try clear hac); (try clear hQl0); (try simp only [ncast, List.length_replicate] at *); omega) | exact setDBz _ _ _ _ (by (try clear hac); (try clear hQl0); (try simp only [ncast, List.length_replicate] at *); omega)) | fail)))
    | rfl
    | (simp only [Int.zero_sub, condEq, decTrue, nstr2, nbl, nrdB, ← hθ, Θ, stdP, std, cmpI, ari, shf, una, mxI, nw64, nw8, nshr, nshl, nbyte, nmx, nmn, nrd, n_T36, n_T38]; done)
    | ((try simp only [Int.zero_sub, condEq, decTrue, nstr2, nbl, nrdB, ← hθ, Θ, stdP, std, cmpI, ari, shf, una, mxI, nw64, nw8, nshr, nshl, nbyte, nmx, nmn, nrd, n_T36, n_T38, true_and, and_true]); (try clear hac); (try clear hQl0); (try simp only [ncast] at *); first | trivial | omega | (refine ⟨?_, ?_⟩ <;> omega) | (refine ⟨?_, ?_, ?_, ?_⟩ <;> omega) | (simp; done) | (simp; omega) | fail)
set_option maxHeartbeats 4000000 in
theorem ac_recode_Degree {k : Nat} {l0 : List (S36)} {l1 : List Int} {r : Int} (h : recode_Degree.f k l0 l1 = some r) : AC Tryd.prog N0 G0 17 [] [.c (.d (est_36 Θ l0)), .c (.d (eI Θ .i64 l1))] [] (.c (.d (.sc (.int .i64 r)))) := by
  refine ac_mk Tryd.func17 rfl (by decide) rfl ?_
  generalize hθ : Θ = θ
  rw [recode_Degree.f] at h
  cbv
  repeat' first
    | ((with_reducible refine pre_and ?_ ?_); rotate_left; (try cbv))
    | with_reducible exact noneO h
    | ((with_reducible replace h := iteO h); rcases h with ⟨hc, h⟩ | ⟨hc, h⟩ <;> (try simp only [decide_eq_true_eq, decide_eq_false_iff_not, beq_iff_eq, bne_iff_ne, beq_eq_false_iff_ne, bne_eq_false_iff_eq, ne_eq, Bool.not_eq_true', Bool.not_eq_false', Bool.not_eq_true, Bool.not_eq_false, Bool.and_eq_true, gt_iff_lt, ge_iff_le, Int.not_lt, Int.not_le] at hc))
    | with_reducible replace h := someB h
    | ((with_reducible replace h := bindO h); obtain ⟨t, ht, h⟩ := h; have hac := ac_recode_mix ht; (try rw [hθ] at hac); refine call_rule' hθ hac rfl rfl ?_ rfl ?_; clear hac; rotate_left; (try cbv))
    | ((with_reducible replace h := bindO h); obtain ⟨t, ht, h⟩ := h; have hac := ac_words_Count ht; (try rw [hθ] at hac); refine call_rule' hθ hac rfl rfl ?_ rfl ?_; clear hac; rotate_left; (try cbv))
    | ((with_reducible replace h := Option.some.inj h); subst h; simp only [← hθ, Θ, stdP, std]; refine exp_of0 ?_)
    | (split <;> (try (rename_i heq; simp only [Int.zero_sub, condEq, decTrue, nstr2, nbl, nrdB, ← hθ, Θ, stdP, std, cmpI, ari, shf, una, mxI, nw64, nw8, nshr, nshl, nbyte, nmx, nmn, nrd, n_T36, n_T38, decide_eq_true_eq, decide_eq_false_iff_not, beq_iff_eq, bne_iff_ne, beq_eq_false_iff_ne, bne_eq_false_iff_eq, ne_eq, Bool.not_eq_true', Bool.not_eq_false', Bool.not_eq_true, Bool.not_eq_false, Bool.and_eq_true, gt_iff_lt, ge_iff_le, Int.not_lt, Int.not_le] at heq)) <;> first | (exfalso; (try clear hac); (try simp only [ncast, List.length_replicate] at *); omega) | (exfalso; rw [heq] at hc; cases hc; done) | (exfalso; exact absurd hc heq) | (exfalso; exact absurd heq hc) | (exfalso; (try clear hac); simp_all; done) | (try cbv))
  iterate 3 all_goals repeat' first
    | with_reducible exact esle_nil
    | ((with_reducible apply esle_c); · first | rfl | exact rfl)
    | ((with_reducible apply esle_a); · first | rfl | exact rfl)
    | with_reducible exact bsle_nil
    | with_reducible refine bsle_cons ?_ ?_
    | with_reducible exact dts_nil
    | with_reducible refine dts_cons ?_ ?_
    | with_reducible refine tle_int ?_
    | with_reducible refine tle_bool ?_
    | with_reducible refine tle_str ?_
    | ((with_reducible apply tle_own); · first | rfl | exact rfl)
    | ((with_reducible apply tle_nilown); · first | rfl | exact rfl)
    | with_reducible refine tle_sl ?_ ?_
    | with_reducible refine tle_nil ?_
    | ((with_reducible apply tle_ownd); rotate_left; · first | rfl | exact rfl; rotate_right)
    | with_reducible refine tle_agg ?_
    | with_reducible refine tle_tup ?_
    | with_reducible exact csle_nil
    | with_reducible refine csle_cons ?_ ?_
    | with_reducible exact tsle_nil
    | with_reducible refine tsle_cons ?_ ?_
    | with_reducible refine cle_int ?_
    | with_reducible refine cle_bool ?_
    | with_reducible refine cle_str ?_
    | ((with_reducible apply cle_own); · first | rfl | exact rfl)
    | ((with_reducible apply cle_nilown); · first | rfl | exact rfl)
    | with_reducible refine cle_sl ?_ ?_
    | with_reducible refine cle_nil ?_
    | ((with_reducible apply cle_ownd); rotate_left; · first | rfl | exact rfl; rotate_right)
    | with_reducible exact cle_rfl
    | ((with_reducible apply ble_vec); · first | rfl | exact rfl; · exact fun h => h)
    | with_reducible refine ble_none ?_
    | ((with_reducible apply ble_box); · first | rfl | exact rfl)
    | ((with_reducible apply tle_ptr); · first | rfl | exact rfl)
    | ((with_reducible apply tle_vptr); · first | rfl | exact rfl)
    | with_reducible exact ble_dead
    | ((with_reducible apply cle_ptr); · first | rfl | exact rfl)
    | with_reducible exact cle_junk
    | with_reducible refine dt_int ?_
    | with_reducible refine dt_bool ?_
    | with_reducible refine dt_str ?_
    | with_reducible refine dt_sl ?_ ?_
    | with_reducible refine dt_nil ?_
    | with_reducible refine dt_agg ?_
    | with_reducible exact dcs_nil
    | with_reducible refine dcs_cons ?_ ?_
    | with_reducible exact dcs_mapn
    | with_reducible refine dcs_mapc ?_ ?_
    | with_reducible exact dl_rfl
    | with_reducible refine dl_int ?_
    | with_reducible refine dl_bool ?_
    | with_reducible refine dl_str ?_
    | with_reducible refine dl_sl ?_ ?_
    | with_reducible refine dl_nil ?_
    | with_reducible exact nth_ne rfl
    | ((with_reducible apply nth_ne); exact rfl)
    | (intro i hi; exact ⟨_, rfl⟩)
    | (intro i hi j hj; first | rfl | ((obtain rfl : j = 0 := by omega); first | exact plit1 hθ _ _ _ hi | exact papp1 hθ _ _ _ _ (by first | exact hi | (simp only [← hθ, Θ, stdP, std] at hi; (try clear hac); (try simp only [ncast, List.length_replicate] at *); omega)) | ((try rw [pset hθ]); (try rw [psetz hθ]); (try rw [papp hθ]); (try rw [pover hθ]); (try rw [pover1 hθ]); (try rw [poverz hθ _ _ _ _ _ rfl]); (simp only [Int.zero_sub, condEq, decTrue, nstr2, nbl, nrdB, ← hθ, Θ, stdP, std, cmpI, ari, shf, una, mxI, nw64, nw8, nshr, nshl, nbyte, nmx, nmn, nrd, n_T36, n_T38, repD, repDB, condSelf] at hi ⊢); first | done | rfl | (refine scC ?_; first | rfl | exact setD _ _ _ _ (by (try clear hac); (try simp only [ncast, List.length_replicate] at *); omega) | exact setDz _ _ _ _ (by (try clear hac); (try simp only [ncast, List.length_replicate] at *); omega) | exact appD _ _ _ | exact padD _ _ _ | exact nbo _ _) | (refine scB ?_; first | rfl | exact setDB _ _ _ _ (by (try clear hac); (try simp only [ncast, List.length_replicate] at *); omega) | exact setDBz _ _ _ _ (by (try clear hac); (try simp only [ncast, List.length_replicate] at *); omega)) | fail)))
    | rfl
    | (simp only [Int.zero_sub, condEq, decTrue, nstr2, nbl, nrdB, ← hθ, Θ, stdP, std, cmpI, ari, shf, una, mxI, nw64, nw8, nshr, nshl, nbyte, nmx, nmn, nrd, n_T36, n_T38]; done)
    | ((try simp only [Int.zero_sub, condEq, decTrue, nstr2, nbl, nrdB, ← hθ, Θ, stdP, std, cmpI, ari, shf, una, mxI, nw64, nw8, nshr, nshl, nbyte, nmx, nmn, nrd, n_T36, n_T38, true_and, and_true]); (try clear hac); (try simp only [ncast] at *); first | trivial | omega | (refine ⟨?_, ?_⟩ <;> omega) | (refine ⟨?_, ?_, ?_, ?_⟩ <;> omega) | (simp; done) | (simp; omega) | fail)
set_option maxHeartbeats 4000000 in
theorem ac_packet_headed {a0_0 : Int} {a0_1 : Int} {a0_2 : Int} {a0_3 : Int} {a0_4 : Int} {l0_5 : List Int} {a0_6 : ByteArray} {r : Int × Int × Int × Int × Int} (h : packet_headed.f a0_0 a0_1 a0_2 a0_3 a0_4 l0_5 a0_6 = some r) : AC Tryd.prog N0 G0 54 [] [.agg [.d (.sc (.int .i64 a0_0)), .d (.sc (.int .i64 a0_1)), .d (.sc (.int .i64 a0_2)), .d (.sc (.int .i64 a0_3)), .d (.sc (.int .i64 a0_4)), .d (eI Θ .u64 l0_5), .d (.sc (.string a0_6))]] [] (.agg [.d (.sc (.int .i64 r.1)), .d (.sc (.int .i64 r.2.1)), .d (.sc (.int .i64 r.2.2.1)), .d (.sc (.int .i64 r.2.2.2.1)), .d (.sc (.int .i64 r.2.2.2.2))]) := by
  refine ac_mk Tryd.func54 rfl (by decide) rfl ?_
  generalize hθ : Θ = θ
  rw [packet_headed.f] at h
  cbv
  repeat' first
    | ((with_reducible refine pre_and ?_ ?_); rotate_left; (try cbv))
    | with_reducible exact noneO h
    | ((with_reducible replace h := iteO h); rcases h with ⟨hc, h⟩ | ⟨hc, h⟩ <;> (try simp only [decide_eq_true_eq, decide_eq_false_iff_not, beq_iff_eq, bne_iff_ne, beq_eq_false_iff_ne, bne_eq_false_iff_eq, ne_eq, Bool.not_eq_true', Bool.not_eq_false', Bool.not_eq_true, Bool.not_eq_false, Bool.and_eq_true, gt_iff_lt, ge_iff_le, Int.not_lt, Int.not_le] at hc))
    | with_reducible replace h := someB h
    | ((with_reducible replace h := Option.some.inj h); subst h; simp only [← hθ, Θ, stdP, std]; refine exp_of0 ?_)
    | (split <;> (try (rename_i heq; simp only [Int.zero_sub, condEq, decTrue, nstr2, nbl, nrdB, ← hθ, Θ, stdP, std, cmpI, ari, shf, una, mxI, nw64, nw8, nshr, nshl, nbyte, nmx, nmn, nrd, n_T36, n_T38, decide_eq_true_eq, decide_eq_false_iff_not, beq_iff_eq, bne_iff_ne, beq_eq_false_iff_ne, bne_eq_false_iff_eq, ne_eq, Bool.not_eq_true', Bool.not_eq_false', Bool.not_eq_true, Bool.not_eq_false, Bool.and_eq_true, gt_iff_lt, ge_iff_le, Int.not_lt, Int.not_le] at heq)) <;> first | (exfalso; (try clear hac); (try simp only [ncast, List.length_replicate] at *); omega) | (exfalso; rw [heq] at hc; cases hc; done) | (exfalso; exact absurd hc heq) | (exfalso; exact absurd heq hc) | (exfalso; (try clear hac); simp_all; done) | (try cbv))
  iterate 3 all_goals repeat' first
    | with_reducible exact esle_nil
    | ((with_reducible apply esle_c); · first | rfl | exact rfl)
    | ((with_reducible apply esle_a); · first | rfl | exact rfl)
    | with_reducible exact bsle_nil
    | with_reducible refine bsle_cons ?_ ?_
    | with_reducible exact dts_nil
    | with_reducible refine dts_cons ?_ ?_
    | with_reducible refine tle_int ?_
    | with_reducible refine tle_bool ?_
    | with_reducible refine tle_str ?_
    | ((with_reducible apply tle_own); · first | rfl | exact rfl)
    | ((with_reducible apply tle_nilown); · first | rfl | exact rfl)
    | with_reducible refine tle_sl ?_ ?_
    | with_reducible refine tle_nil ?_
    | ((with_reducible apply tle_ownd); rotate_left; · first | rfl | exact rfl; rotate_right)
    | with_reducible refine tle_agg ?_
    | with_reducible refine tle_tup ?_
    | with_reducible exact csle_nil
    | with_reducible refine csle_cons ?_ ?_
    | with_reducible exact tsle_nil
    | with_reducible refine tsle_cons ?_ ?_
    | with_reducible refine cle_int ?_
    | with_reducible refine cle_bool ?_
    | with_reducible refine cle_str ?_
    | ((with_reducible apply cle_own); · first | rfl | exact rfl)
    | ((with_reducible apply cle_nilown); · first | rfl | exact rfl)
    | with_reducible refine cle_sl ?_ ?_
    | with_reducible refine cle_nil ?_
    | ((with_reducible apply cle_ownd); rotate_left; · first | rfl | exact rfl; rotate_right)
    | with_reducible exact cle_rfl
    | ((with_reducible apply ble_vec); · first | rfl | exact rfl; · exact fun h => h)
    | with_reducible refine ble_none ?_
    | ((with_reducible apply ble_box); · first | rfl | exact rfl)
    | ((with_reducible apply tle_ptr); · first | rfl | exact rfl)
    | ((with_reducible apply tle_vptr); · first | rfl | exact rfl)
    | with_reducible exact ble_dead
    | ((with_reducible apply cle_ptr); · first | rfl | exact rfl)
    | with_reducible exact cle_junk
    | with_reducible refine dt_int ?_
    | with_reducible refine dt_bool ?_
    | with_reducible refine dt_str ?_
    | with_reducible refine dt_sl ?_ ?_
    | with_reducible refine dt_nil ?_
    | with_reducible refine dt_agg ?_
    | with_reducible exact dcs_nil
    | with_reducible refine dcs_cons ?_ ?_
    | with_reducible exact dcs_mapn
    | with_reducible refine dcs_mapc ?_ ?_
    | with_reducible exact dl_rfl
    | with_reducible refine dl_int ?_
    | with_reducible refine dl_bool ?_
    | with_reducible refine dl_str ?_
    | with_reducible refine dl_sl ?_ ?_
    | with_reducible refine dl_nil ?_
    | with_reducible exact nth_ne rfl
    | ((with_reducible apply nth_ne); exact rfl)
    | (intro i hi; exact ⟨_, rfl⟩)
    | (intro i hi j hj; first | rfl | ((obtain rfl : j = 0 := by omega); first | exact plit1 hθ _ _ _ hi | exact papp1 hθ _ _ _ _ (by first | exact hi | (simp only [← hθ, Θ, stdP, std] at hi; (try clear hac); (try simp only [ncast, List.length_replicate] at *); omega)) | ((try rw [pset hθ]); (try rw [psetz hθ]); (try rw [papp hθ]); (try rw [pover hθ]); (try rw [pover1 hθ]); (try rw [poverz hθ _ _ _ _ _ rfl]); (simp only [Int.zero_sub, condEq, decTrue, nstr2, nbl, nrdB, ← hθ, Θ, stdP, std, cmpI, ari, shf, una, mxI, nw64, nw8, nshr, nshl, nbyte, nmx, nmn, nrd, n_T36, n_T38, repD, repDB, condSelf] at hi ⊢); first | done | rfl | (refine scC ?_; first | rfl | exact setD _ _ _ _ (by (try clear hac); (try simp only [ncast, List.length_replicate] at *); omega) | exact setDz _ _ _ _ (by (try clear hac); (try simp only [ncast, List.length_replicate] at *); omega) | exact appD _ _ _ | exact padD _ _ _ | exact nbo _ _) | (refine scB ?_; first | rfl | exact setDB _ _ _ _ (by (try clear hac); (try simp only [ncast, List.length_replicate] at *); omega) | exact setDBz _ _ _ _ (by (try clear hac); (try simp only [ncast, List.length_replicate] at *); omega)) | fail)))
    | rfl
    | (simp only [Int.zero_sub, condEq, decTrue, nstr2, nbl, nrdB, ← hθ, Θ, stdP, std, cmpI, ari, shf, una, mxI, nw64, nw8, nshr, nshl, nbyte, nmx, nmn, nrd, n_T36, n_T38]; done)
    | ((try simp only [Int.zero_sub, condEq, decTrue, nstr2, nbl, nrdB, ← hθ, Θ, stdP, std, cmpI, ari, shf, una, mxI, nw64, nw8, nshr, nshl, nbyte, nmx, nmn, nrd, n_T36, n_T38, true_and, and_true]); (try clear hac); (try simp only [ncast] at *); first | trivial | omega | (refine ⟨?_, ?_⟩ <;> omega) | (refine ⟨?_, ?_, ?_, ?_⟩ <;> omega) | (simp; done) | (simp; omega) | fail)
set_option maxHeartbeats 4000000 in
theorem ac_packet_Alike {a0_0 : Int} {a0_1 : Int} {a0_2 : Int} {a0_3 : Int} {a0_4 : Int} {l0_5 : List Int} {a0_6 : ByteArray} {a1_0 : Int} {a1_1 : Int} {a1_2 : Int} {a1_3 : Int} {a1_4 : Int} {l1_5 : List Int} {a1_6 : ByteArray} {r : Bool} (h : packet_Alike.f a0_0 a0_1 a0_2 a0_3 a0_4 l0_5 a0_6 a1_0 a1_1 a1_2 a1_3 a1_4 l1_5 a1_6 = some r) : AC Tryd.prog N0 G0 41 [] [.agg [.d (.sc (.int .i64 a0_0)), .d (.sc (.int .i64 a0_1)), .d (.sc (.int .i64 a0_2)), .d (.sc (.int .i64 a0_3)), .d (.sc (.int .i64 a0_4)), .d (eI Θ .u64 l0_5), .d (.sc (.string a0_6))], .agg [.d (.sc (.int .i64 a1_0)), .d (.sc (.int .i64 a1_1)), .d (.sc (.int .i64 a1_2)), .d (.sc (.int .i64 a1_3)), .d (.sc (.int .i64 a1_4)), .d (eI Θ .u64 l1_5), .d (.sc (.string a1_6))]] [] (.c (.d (.sc (.bool r)))) := by
  refine ac_mk Tryd.func41 rfl (by decide) rfl ?_
  generalize hθ : Θ = θ
  rw [packet_Alike.f] at h
  cbv
  repeat' first
    | ((with_reducible refine pre_and ?_ ?_); rotate_left; (try cbv))
    | with_reducible exact noneO h
    | ((with_reducible replace h := iteO h); rcases h with ⟨hc, h⟩ | ⟨hc, h⟩ <;> (try simp only [decide_eq_true_eq, decide_eq_false_iff_not, beq_iff_eq, bne_iff_ne, beq_eq_false_iff_ne, bne_eq_false_iff_eq, ne_eq, Bool.not_eq_true', Bool.not_eq_false', Bool.not_eq_true, Bool.not_eq_false, Bool.and_eq_true, gt_iff_lt, ge_iff_le, Int.not_lt, Int.not_le] at hc))
    | with_reducible replace h := someB h
    | ((with_reducible replace h := bindO h); obtain ⟨t, ht, h⟩ := h; have hac := ac_packet_headed ht; (try rw [hθ] at hac); refine call_rule' hθ hac rfl rfl ?_ rfl ?_; clear hac; rotate_left; (try cbv))
    | ((with_reducible replace h := Option.some.inj h); subst h; simp only [← hθ, Θ, stdP, std]; refine exp_of0 ?_)
    | (split <;> (try (rename_i heq; simp only [Int.zero_sub, condEq, decTrue, nstr2, nbl, nrdB, ← hθ, Θ, stdP, std, cmpI, ari, shf, una, mxI, nw64, nw8, nshr, nshl, nbyte, nmx, nmn, nrd, n_T36, n_T38, decide_eq_true_eq, decide_eq_false_iff_not, beq_iff_eq, bne_iff_ne, beq_eq_false_iff_ne, bne_eq_false_iff_eq, ne_eq, Bool.not_eq_true', Bool.not_eq_false', Bool.not_eq_true, Bool.not_eq_false, Bool.and_eq_true, gt_iff_lt, ge_iff_le, Int.not_lt, Int.not_le] at heq)) <;> first | (exfalso; (try clear hac); (try simp only [ncast, List.length_replicate] at *); omega) | (exfalso; rw [heq] at hc; cases hc; done) | (exfalso; exact absurd hc heq) | (exfalso; exact absurd heq hc) | (exfalso; (try clear hac); simp_all; done) | (try cbv))
  iterate 3 all_goals repeat' first
    | with_reducible exact esle_nil
    | ((with_reducible apply esle_c); · first | rfl | exact rfl)
    | ((with_reducible apply esle_a); · first | rfl | exact rfl)
    | with_reducible exact bsle_nil
    | with_reducible refine bsle_cons ?_ ?_
    | with_reducible exact dts_nil
    | with_reducible refine dts_cons ?_ ?_
    | with_reducible refine tle_int ?_
    | with_reducible refine tle_bool ?_
    | with_reducible refine tle_str ?_
    | ((with_reducible apply tle_own); · first | rfl | exact rfl)
    | ((with_reducible apply tle_nilown); · first | rfl | exact rfl)
    | with_reducible refine tle_sl ?_ ?_
    | with_reducible refine tle_nil ?_
    | ((with_reducible apply tle_ownd); rotate_left; · first | rfl | exact rfl; rotate_right)
    | with_reducible refine tle_agg ?_
    | with_reducible refine tle_tup ?_
    | with_reducible exact csle_nil
    | with_reducible refine csle_cons ?_ ?_
    | with_reducible exact tsle_nil
    | with_reducible refine tsle_cons ?_ ?_
    | with_reducible refine cle_int ?_
    | with_reducible refine cle_bool ?_
    | with_reducible refine cle_str ?_
    | ((with_reducible apply cle_own); · first | rfl | exact rfl)
    | ((with_reducible apply cle_nilown); · first | rfl | exact rfl)
    | with_reducible refine cle_sl ?_ ?_
    | with_reducible refine cle_nil ?_
    | ((with_reducible apply cle_ownd); rotate_left; · first | rfl | exact rfl; rotate_right)
    | with_reducible exact cle_rfl
    | ((with_reducible apply ble_vec); · first | rfl | exact rfl; · exact fun h => h)
    | with_reducible refine ble_none ?_
    | ((with_reducible apply ble_box); · first | rfl | exact rfl)
    | ((with_reducible apply tle_ptr); · first | rfl | exact rfl)
    | ((with_reducible apply tle_vptr); · first | rfl | exact rfl)
    | with_reducible exact ble_dead
    | ((with_reducible apply cle_ptr); · first | rfl | exact rfl)
    | with_reducible exact cle_junk
    | with_reducible refine dt_int ?_
    | with_reducible refine dt_bool ?_
    | with_reducible refine dt_str ?_
    | with_reducible refine dt_sl ?_ ?_
    | with_reducible refine dt_nil ?_
    | with_reducible refine dt_agg ?_
    | with_reducible exact dcs_nil
    | with_reducible refine dcs_cons ?_ ?_
    | with_reducible exact dcs_mapn
    | with_reducible refine dcs_mapc ?_ ?_
    | with_reducible exact dl_rfl
    | with_reducible refine dl_int ?_
    | with_reducible refine dl_bool ?_
    | with_reducible refine dl_str ?_
    | with_reducible refine dl_sl ?_ ?_
    | with_reducible refine dl_nil ?_
    | with_reducible exact nth_ne rfl
    | ((with_reducible apply nth_ne); exact rfl)
    | (intro i hi; exact ⟨_, rfl⟩)
    | (intro i hi j hj; first | rfl | ((obtain rfl : j = 0 := by omega); first | exact plit1 hθ _ _ _ hi | exact papp1 hθ _ _ _ _ (by first | exact hi | (simp only [← hθ, Θ, stdP, std] at hi; (try clear hac); (try simp only [ncast, List.length_replicate] at *); omega)) | ((try rw [pset hθ]); (try rw [psetz hθ]); (try rw [papp hθ]); (try rw [pover hθ]); (try rw [pover1 hθ]); (try rw [poverz hθ _ _ _ _ _ rfl]); (simp only [Int.zero_sub, condEq, decTrue, nstr2, nbl, nrdB, ← hθ, Θ, stdP, std, cmpI, ari, shf, una, mxI, nw64, nw8, nshr, nshl, nbyte, nmx, nmn, nrd, n_T36, n_T38, repD, repDB, condSelf] at hi ⊢); first | done | rfl | (refine scC ?_; first | rfl | exact setD _ _ _ _ (by (try clear hac); (try simp only [ncast, List.length_replicate] at *); omega) | exact setDz _ _ _ _ (by (try clear hac); (try simp only [ncast, List.length_replicate] at *); omega) | exact appD _ _ _ | exact padD _ _ _ | exact nbo _ _) | (refine scB ?_; first | rfl | exact setDB _ _ _ _ (by (try clear hac); (try simp only [ncast, List.length_replicate] at *); omega) | exact setDBz _ _ _ _ (by (try clear hac); (try simp only [ncast, List.length_replicate] at *); omega)) | fail)))
    | rfl
    | (simp only [Int.zero_sub, condEq, decTrue, nstr2, nbl, nrdB, ← hθ, Θ, stdP, std, cmpI, ari, shf, una, mxI, nw64, nw8, nshr, nshl, nbyte, nmx, nmn, nrd, n_T36, n_T38]; done)
    | ((try simp only [Int.zero_sub, condEq, decTrue, nstr2, nbl, nrdB, ← hθ, Θ, stdP, std, cmpI, ari, shf, una, mxI, nw64, nw8, nshr, nshl, nbyte, nmx, nmn, nrd, n_T36, n_T38, true_and, and_true]); (try clear hac); (try simp only [ncast] at *); first | trivial | omega | (refine ⟨?_, ?_⟩ <;> omega) | (refine ⟨?_, ?_, ?_, ?_⟩ <;> omega) | (simp; done) | (simp; omega) | fail)
theorem words_First.l0_s {r : Int} : ∀ {k : Nat} {x5 : List Int} {x6 : Int} {x7 : Int}, words_First.l0 k x5 x6 x7 = some r → ∃ q, q < k ∧ (if x7 < x6 then (if 0 ≤ x7 then (if x7 < (x5.length : Int) then (if (rd x5 x7) = 0 then (words_First.l0 q x5 x6 (wrap64 (x7 + 1))) else ((bits_TrailingZeros64.f (rd x5 x7)).bind fun t157 => (some (wrap64 ((wrap64 (64 * x7)) + t157))))) else (none)) else (none)) else (some (-1))) = some r
  | 0, _, _, _, h => by cases h
  | k + 1, _, _, _, h => ⟨k, Nat.lt_succ_self k, h⟩
set_option maxHeartbeats 4000000 in
theorem ac_words_First {k : Nat} {l0 : List Int} {r : Int} (h : words_First.f k l0 = some r) : AC Tryd.prog N0 G0 43 [] [.c (.d (eI Θ .u64 l0))] [] (.c (.d (.sc (.int .i64 r)))) := by
  refine ac_mk Tryd.func43 rfl (by decide) rfl ?_
  generalize hθ : Θ = θ
  rw [words_First.f] at h
  cbv
  repeat' first
    | ((with_reducible refine pre_and ?_ ?_); rotate_left; (try cbv))
    | with_reducible exact noneO h
    | ((with_reducible replace h := iteO h); rcases h with ⟨hc, h⟩ | ⟨hc, h⟩ <;> (try simp only [decide_eq_true_eq, decide_eq_false_iff_not, beq_iff_eq, bne_iff_ne, beq_eq_false_iff_ne, bne_eq_false_iff_eq, ne_eq, Bool.not_eq_true', Bool.not_eq_false', Bool.not_eq_true, Bool.not_eq_false, Bool.and_eq_true, gt_iff_lt, ge_iff_le, Int.not_lt, Int.not_le] at hc))
    | with_reducible replace h := someB h
    | ((with_reducible replace h := bindO h); obtain ⟨t, ht, h⟩ := h; have hac := ac_bits_TrailingZeros64 ht; (try rw [hθ] at hac); refine call_rule' hθ hac rfl rfl ?_ rfl ?_; clear hac; rotate_left; (try cbv))
    | with_reducible refine hQl0 _ _ _ (by omega) ⟨_, _, _, h, rfl⟩ ?_
    | ((with_reducible refine loopI hθ (fun k s => ∃ (x5 : List Int) (x6 : Int) (x7 : Int), words_First.l0 k x5 x6 x7 = some r ∧ s = ⟨envL [(5, .c (.d (eI θ .u64 x5))), (6, .c (.d (.sc (.int .i64 x6)))), (7, .c (.d (.sc (.int .i64 x7))))], arOf [], 0, 20, 0⟩) ⟨_, _, _, h, rfl⟩ ?_ ?_); rotate_left; (rintro m _ Ql0 hm ⟨x5, x6, x7, h, rfl⟩ hQl0; replace h := words_First.l0_s h; obtain ⟨k, hk, h⟩ := h; cbv))
    | ((with_reducible replace h := Option.some.inj h); subst h; simp only [← hθ, Θ, stdP, std]; refine exp_of0 ?_)
    | (split <;> (try (rename_i heq; simp only [Int.zero_sub, condEq, decTrue, nstr2, nbl, nrdB, ← hθ, Θ, stdP, std, cmpI, ari, shf, una, mxI, nw64, nw8, nshr, nshl, nbyte, nmx, nmn, nrd, n_T36, n_T38, decide_eq_true_eq, decide_eq_false_iff_not, beq_iff_eq, bne_iff_ne, beq_eq_false_iff_ne, bne_eq_false_iff_eq, ne_eq, Bool.not_eq_true', Bool.not_eq_false', Bool.not_eq_true, Bool.not_eq_false, Bool.and_eq_true, gt_iff_lt, ge_iff_le, Int.not_lt, Int.not_le] at heq)) <;> first | (exfalso; (try clear hac); (try clear hQl0); (try simp only [ncast, List.length_replicate] at *); omega) | (exfalso; rw [heq] at hc; cases hc; done) | (exfalso; exact absurd hc heq) | (exfalso; exact absurd heq hc) | (exfalso; (try clear hac); (try clear hQl0); simp_all; done) | (try cbv))
  iterate 3 all_goals repeat' first
    | with_reducible refine sub_of0 ?_ rfl
    | with_reducible apply sub_of1
    | with_reducible apply sub_of2
    | with_reducible apply sub_of3
    | with_reducible exact esle_nil
    | ((with_reducible apply esle_c); · first | rfl | exact rfl)
    | ((with_reducible apply esle_a); · first | rfl | exact rfl)
    | with_reducible exact bsle_nil
    | with_reducible refine bsle_cons ?_ ?_
    | with_reducible exact dts_nil
    | with_reducible refine dts_cons ?_ ?_
    | with_reducible refine tle_int ?_
    | with_reducible refine tle_bool ?_
    | with_reducible refine tle_str ?_
    | ((with_reducible apply tle_own); · first | rfl | exact rfl)
    | ((with_reducible apply tle_nilown); · first | rfl | exact rfl)
    | with_reducible refine tle_sl ?_ ?_
    | with_reducible refine tle_nil ?_
    | ((with_reducible apply tle_ownd); rotate_left; · first | rfl | exact rfl; rotate_right)
    | ((with_reducible apply ble_vec); · first | rfl | exact rfl; · exact fun h => h)
    | with_reducible refine ble_none ?_
    | with_reducible refine dt_int ?_
    | with_reducible refine dt_bool ?_
    | with_reducible refine dt_str ?_
    | with_reducible refine dt_sl ?_ ?_
    | with_reducible refine dt_nil ?_
    | with_reducible exact nth_ne rfl
    | ((with_reducible apply nth_ne); exact rfl)
    | (intro i hi; exact ⟨_, rfl⟩)
    | (intro i hi j hj; first | rfl | ((obtain rfl : j = 0 := by omega); first | exact plit1 hθ _ _ _ hi | exact papp1 hθ _ _ _ _ (by first | exact hi | (simp only [← hθ, Θ, stdP, std] at hi; (try clear hac); (try clear hQl0); (try simp only [ncast, List.length_replicate] at *); omega)) | ((try rw [pset hθ]); (try rw [psetz hθ]); (try rw [papp hθ]); (try rw [pover hθ]); (try rw [pover1 hθ]); (try rw [poverz hθ _ _ _ _ _ rfl]); (simp only [Int.zero_sub, condEq, decTrue, nstr2, nbl, nrdB, ← hθ, Θ, stdP, std, cmpI, ari, shf, una, mxI, nw64, nw8, nshr, nshl, nbyte, nmx, nmn, nrd, n_T36, n_T38, repD, repDB, condSelf] at hi ⊢); first | done | rfl | (refine scC ?_; first | rfl | exact setD _ _ _ _ (by (try clear hac); (try clear hQl0); (try simp only [ncast, List.length_replicate] at *); omega) | exact setDz _ _ _ _ (by (try clear hac); (try clear hQl0); (try simp only [ncast, List.length_replicate] at *); omega) | exact appD _ _ _ | exact padD _ _ _ | exact nbo _ _) | (refine scB ?_; first | rfl | exact setDB _ _ _ _ (by (try clear hac); (try clear hQl0); (try simp only [ncast, List.length_replicate] at *); omega) | exact setDBz _ _ _ _ (by (try clear hac); (try clear hQl0); (try simp only [ncast, List.length_replicate] at *); omega)) | fail)))
    | rfl
    | (simp only [Int.zero_sub, condEq, decTrue, nstr2, nbl, nrdB, ← hθ, Θ, stdP, std, cmpI, ari, shf, una, mxI, nw64, nw8, nshr, nshl, nbyte, nmx, nmn, nrd, n_T36, n_T38]; done)
    | ((try simp only [Int.zero_sub, condEq, decTrue, nstr2, nbl, nrdB, ← hθ, Θ, stdP, std, cmpI, ari, shf, una, mxI, nw64, nw8, nshr, nshl, nbyte, nmx, nmn, nrd, n_T36, n_T38, true_and, and_true]); (try clear hac); (try clear hQl0); (try simp only [ncast] at *); first | trivial | omega | (refine ⟨?_, ?_⟩ <;> omega) | (refine ⟨?_, ?_, ?_, ?_⟩ <;> omega) | (simp; done) | (simp; omega) | fail)
theorem recode_Mix.l0_s {r : Int × Int × Int × Int × Int × List Int × ByteArray × Bool} : ∀ {k : Nat} {x0 : List (S38)} {x6 : List (S38)} {x13 : List Int} {x14 : Int} {x15 : Int}, recode_Mix.l0 k x0 x6 x13 x14 x15 = some r → ∃ q, q < k ∧ (if x15 < x14 then (if 0 ≤ x15 then (if x15 < (x13.length : Int) then (if (rd x13 x15) ≥ 0 then (if (rd x13 x15) < (x0.length : Int) then (if 0 ≤ (rd x13 x15) then (if x6.length < 1759218604441 then (recode_Mix.l0 q x0 (x6 ++ [(⟨(rd_T38 x0 (rd x13 x15)).f0, (rd_T38 x0 (rd x13 x15)).f1, (rd_T38 x0 (rd x13 x15)).f2, (rd_T38 x0 (rd x13 x15)).f3, (rd_T38 x0 (rd x13 x15)).f4, (⟨(rd_T38 x0 (rd x13 x15)).f5.f0, (rd_T38 x0 (rd x13 x15)).f5.f1⟩ : S36)⟩ : S38)]) x13 x14 (wrap64 (x15 + 1))) else (none)) else (none)) else (recode_Mix.l0 q x0 x6 x13 x14 (wrap64 (x15 + 1)))) else (recode_Mix.l0 q x0 x6 x13 x14 (wrap64 (x15 + 1)))) else (none)) else (none)) else (if (x6.length : Int) = 0 then (some (0, 0, 0, 0, 0, ([] : List Int), (⟨#[]⟩ : ByteArray), false)) else (if 0 < (x6.length : Int) then (recode_Mix.l1 q x6 ([] : List (S36)) x6 (x6.length : Int) 0 ((rd_T38 x6 0).f0) ((rd_T38 x6 0).f1) ((rd_T38 x6 0).f2) ((rd_T38 x6 0).f3) ((rd_T38 x6 0).f4) ((rd_T38 x6 0).f5.f0) ((rd_T38 x6 0).f5.f1)) else (none)))) = some r
  | 0, _, _, _, _, _, h => by cases h
  | k + 1, _, _, _, _, _, h => ⟨k, Nat.lt_succ_self k, h⟩
theorem recode_Mix.l1_s {r : Int × Int × Int × Int × Int × List Int × ByteArray × Bool} : ∀ {k : Nat} {x6 : List (S38)} {x10 : List (S36)} {x42 : List (S38)} {x43 : Int} {x44 : Int} {x166000 : Int} {x166001 : Int} {x166002 : Int} {x166003 : Int} {x166004 : Int} {x166005 : List Int} {x166006 : ByteArray}, recode_Mix.l1 k x6 x10 x42 x43 x44 x166000 x166001 x166002 x166003 x166004 x166005 x166006 = some r → ∃ q, q < k ∧ (if x44 < x43 then (if 0 ≤ x44 then (if x44 < (x42.length : Int) then (if 0 < (x6.length : Int) then ((packet_Alike.f ((rd_T38 x6 0).f0) ((rd_T38 x6 0).f1) ((rd_T38 x6 0).f2) ((rd_T38 x6 0).f3) ((rd_T38 x6 0).f4) ((rd_T38 x6 0).f5.f0) ((rd_T38 x6 0).f5.f1) ((rd_T38 x42 x44).f0) ((rd_T38 x42 x44).f1) ((rd_T38 x42 x44).f2) ((rd_T38 x42 x44).f3) ((rd_T38 x42 x44).f4) ((rd_T38 x42 x44).f5.f0) ((rd_T38 x42 x44).f5.f1)).bind fun t169 => (if t169 = true then (if x10.length < 3518437208883 then (recode_Mix.l1 q x6 (x10 ++ [(⟨(rd_T38 x42 x44).f5.f0, (rd_T38 x42 x44).f5.f1⟩ : S36)]) x42 x43 (wrap64 (x44 + 1)) x166000 x166001 x166002 x166003 (mx x166004 ((rd_T38 x42 x44).f4)) x166005 x166006) else (none)) else (some (0, 0, 0, 0, 0, ([] : List Int), (⟨#[]⟩ : ByteArray), false)))) else (none)) else (none)) else (none)) else ((xor_Row.f q x10).bind fun bt173 => ((words_First.f q bt173.1).bind fun t177 => (if t177 < 0 then (some (0, 0, 0, 0, 0, ([] : List Int), (⟨#[]⟩ : ByteArray), false)) else (if x166004 ≥ 15 then (some (0, 0, 0, 0, 0, ([] : List Int), (⟨#[]⟩ : ByteArray), false)) else (some (x166000, x166001, x166002, x166003, wrap64 (x166004 + 1), bt173.1, bt173.2, true))))))) = some r
  | 0, _, _, _, _, _, _, _, _, _, _, _, _, h => by cases h
  | k + 1, _, _, _, _, _, _, _, _, _, _, _, _, h => ⟨k, Nat.lt_succ_self k, h⟩
set_option maxHeartbeats 4000000 in
theorem ac_recode_Mix {k : Nat} {l0 : List (S38)} {l1 : List Int} {r : Int × Int × Int × Int × Int × List Int × ByteArray × Bool} (h : recode_Mix.f k l0 l1 = some r) : AC Tryd.prog N0 G0 20 [] [.c (.d (est_38 Θ l0)), .c (.d (eI Θ .i64 l1))] [] (.tup [.agg [.d (.sc (.int .i64 r.1)), .d (.sc (.int .i64 r.2.1)), .d (.sc (.int .i64 r.2.2.1)), .d (.sc (.int .i64 r.2.2.2.1)), .d (.sc (.int .i64 r.2.2.2.2.1)), .d (eI Θ .u64 r.2.2.2.2.2.1), .d (.sc (.string r.2.2.2.2.2.2.1))], .c (.d (.sc (.bool r.2.2.2.2.2.2.2)))]) := by
  refine ac_mk Tryd.func20 rfl (by decide) rfl ?_
  generalize hθ : Θ = θ
  rw [recode_Mix.f] at h
  cbv
  repeat' first
    | ((with_reducible refine pre_and ?_ ?_); rotate_left; (try cbv))
    | with_reducible exact noneO h
    | ((with_reducible replace h := iteO h); rcases h with ⟨hc, h⟩ | ⟨hc, h⟩ <;> (try simp only [decide_eq_true_eq, decide_eq_false_iff_not, beq_iff_eq, bne_iff_ne, beq_eq_false_iff_ne, bne_eq_false_iff_eq, ne_eq, Bool.not_eq_true', Bool.not_eq_false', Bool.not_eq_true, Bool.not_eq_false, Bool.and_eq_true, gt_iff_lt, ge_iff_le, Int.not_lt, Int.not_le] at hc))
    | with_reducible replace h := someB h
    | ((with_reducible replace h := bindO h); obtain ⟨t, ht, h⟩ := h; have hac := ac_packet_Alike ht; (try rw [hθ] at hac); refine call_rule' hθ hac rfl rfl ?_ rfl ?_; clear hac; rotate_left; (try cbv))
    | ((with_reducible replace h := bindO h); obtain ⟨t, ht, h⟩ := h; have hac := ac_xor_Row ht; (try rw [hθ] at hac); refine call_rule' hθ hac rfl rfl ?_ rfl ?_; clear hac; rotate_left; (try cbv))
    | ((with_reducible replace h := bindO h); obtain ⟨t, ht, h⟩ := h; have hac := ac_words_First ht; (try rw [hθ] at hac); refine call_rule' hθ hac rfl rfl ?_ rfl ?_; clear hac; rotate_left; (try cbv))
    | with_reducible refine hQl0 _ _ _ (by omega) ⟨_, _, _, _, _, h, rfl⟩ ?_
    | ((with_reducible refine loopI hθ (fun k s => ∃ (x0 : List (S38)) (x6 : List (S38)) (x13 : List Int) (x14 : Int) (x15 : Int), recode_Mix.l0 k x0 x6 x13 x14 x15 = some r ∧ s = ⟨envL [(4, .c (.ptr 0 0)), (0, .c (.d (est_38 θ x0))), (6, .c (.own 1 (θ.len x6))), (13, .c (.d (eI θ .i64 x13))), (14, .c (.d (.sc (.int .i64 x14)))), (15, .c (.d (.sc (.int .i64 x15))))], arOf [Blk.box [.junk, .junk, .junk, .junk, .junk, .junk, .junk], bst_38 θ x6], 2, 86, 0⟩) ⟨_, _, _, _, _, h, rfl⟩ ?_ ?_); rotate_left; (rintro m _ Ql0 hm ⟨x0, x6, x13, x14, x15, h, rfl⟩ hQl0; replace h := recode_Mix.l0_s h; obtain ⟨k, hk, h⟩ := h; cbv))
    | with_reducible refine hQl1 _ _ _ (by omega) ⟨_, _, _, _, _, _, _, _, _, _, _, _, h, rfl⟩ ?_
    | ((with_reducible refine loopI hθ (fun k s => ∃ (x6 : List (S38)) (x10 : List (S36)) (x42 : List (S38)) (x43 : Int) (x44 : Int) (x166000 : Int) (x166001 : Int) (x166002 : Int) (x166003 : Int) (x166004 : Int) (x166005 : List Int) (x166006 : ByteArray), recode_Mix.l1 k x6 x10 x42 x43 x44 x166000 x166001 x166002 x166003 x166004 x166005 x166006 = some r ∧ s = ⟨envL [(4, .c (.ptr 0 0)), (6, .c (.d (est_38 θ x6))), (10, .c (.own 2 (θ.len x10))), (42, .c (.d (est_38 θ x42))), (43, .c (.d (.sc (.int .i64 x43)))), (44, .c (.d (.sc (.int .i64 x44)))), (9, .c (.ptr 1 0))], arOf [Blk.box [.junk, .junk, .junk, .junk, .junk, .junk, .junk], Blk.box [.d (.sc (.int .i64 x166000)), .d (.sc (.int .i64 x166001)), .d (.sc (.int .i64 x166002)), .d (.sc (.int .i64 x166003)), .d (.sc (.int .i64 x166004)), .d (eI θ .u64 x166005), .d (.sc (.string x166006))], bst_36 θ x10], 3, 86, 0⟩) ⟨_, _, _, _, _, _, _, _, _, _, _, _, h, rfl⟩ ?_ ?_); rotate_left; (rintro m _ Ql1 hm ⟨x6, x10, x42, x43, x44, x166000, x166001, x166002, x166003, x166004, x166005, x166006, h, rfl⟩ hQl1; replace h := recode_Mix.l1_s h; obtain ⟨k, hk, h⟩ := h; cbv))
    | ((with_reducible replace h := Option.some.inj h); subst h; simp only [← hθ, Θ, stdP, std]; refine exp_of0 ?_)
    | (split <;> (try (rename_i heq; simp only [Int.zero_sub, condEq, decTrue, nstr2, nbl, nrdB, ← hθ, Θ, stdP, std, cmpI, ari, shf, una, mxI, nw64, nw8, nshr, nshl, nbyte, nmx, nmn, nrd, n_T36, n_T38, decide_eq_true_eq, decide_eq_false_iff_not, beq_iff_eq, bne_iff_ne, beq_eq_false_iff_ne, bne_eq_false_iff_eq, ne_eq, Bool.not_eq_true', Bool.not_eq_false', Bool.not_eq_true, Bool.not_eq_false, Bool.and_eq_true, gt_iff_lt, ge_iff_le, Int.not_lt, Int.not_le] at heq)) <;> first | (exfalso; (try clear hac); (try clear hQl0); (try clear hQl1); (try simp only [ncast, List.length_replicate] at *); omega) | (exfalso; rw [heq] at hc; cases hc; done) | (exfalso; exact absurd hc heq) | (exfalso; exact absurd heq hc) | (exfalso; (try clear hac); (try clear hQl0); (try clear hQl1); simp_all; done) | (try cbv))
  iterate 3 all_goals repeat' first
    | with_reducible refine sub_of0 ?_ rfl
    | with_reducible apply sub_of1
    | with_reducible apply sub_of2
    | with_reducible apply sub_of3
    | with_reducible exact esle_nil
    | ((with_reducible apply esle_c); · first | rfl | exact rfl)
    | ((with_reducible apply esle_a); · first | rfl | exact rfl)
    | with_reducible exact bsle_nil
    | with_reducible refine bsle_cons ?_ ?_
    | with_reducible exact dts_nil
    | with_reducible refine dts_cons ?_ ?_
    | with_reducible refine tle_int ?_
    | with_reducible refine tle_bool ?_
    | with_reducible refine tle_str ?_
    | ((with_reducible apply tle_own); · first | rfl | exact rfl)
    | ((with_reducible apply tle_nilown); · first | rfl | exact rfl)
    | with_reducible refine tle_sl ?_ ?_
    | with_reducible refine tle_nil ?_
    | ((with_reducible apply tle_ownd); rotate_left; · first | rfl | exact rfl; rotate_right)
    | with_reducible refine tle_agg ?_
    | with_reducible refine tle_tup ?_
    | with_reducible exact csle_nil
    | with_reducible refine csle_cons ?_ ?_
    | with_reducible exact tsle_nil
    | with_reducible refine tsle_cons ?_ ?_
    | with_reducible refine cle_int ?_
    | with_reducible refine cle_bool ?_
    | with_reducible refine cle_str ?_
    | ((with_reducible apply cle_own); · first | rfl | exact rfl)
    | ((with_reducible apply cle_nilown); · first | rfl | exact rfl)
    | with_reducible refine cle_sl ?_ ?_
    | with_reducible refine cle_nil ?_
    | ((with_reducible apply cle_ownd); rotate_left; · first | rfl | exact rfl; rotate_right)
    | with_reducible exact cle_rfl
    | ((with_reducible apply ble_vec); · first | rfl | exact rfl; · exact fun h => h)
    | with_reducible refine ble_none ?_
    | ((with_reducible apply ble_box); · first | rfl | exact rfl)
    | ((with_reducible apply tle_ptr); · first | rfl | exact rfl)
    | ((with_reducible apply tle_vptr); · first | rfl | exact rfl)
    | with_reducible exact ble_dead
    | ((with_reducible apply cle_ptr); · first | rfl | exact rfl)
    | with_reducible exact cle_junk
    | with_reducible refine dt_int ?_
    | with_reducible refine dt_bool ?_
    | with_reducible refine dt_str ?_
    | with_reducible refine dt_sl ?_ ?_
    | with_reducible refine dt_nil ?_
    | with_reducible refine dt_agg ?_
    | with_reducible exact dcs_nil
    | with_reducible refine dcs_cons ?_ ?_
    | with_reducible exact dcs_mapn
    | with_reducible refine dcs_mapc ?_ ?_
    | with_reducible exact dl_rfl
    | with_reducible refine dl_int ?_
    | with_reducible refine dl_bool ?_
    | with_reducible refine dl_str ?_
    | with_reducible refine dl_sl ?_ ?_
    | with_reducible refine dl_nil ?_
    | with_reducible exact nth_ne rfl
    | ((with_reducible apply nth_ne); exact rfl)
    | (intro i hi; exact ⟨_, rfl⟩)
    | (intro i hi j hj; first | rfl | (refine pappS hθ (c36 θ) _ _ _ _ i j (by first | exact hi | (simp only [← hθ, Θ, stdP, std] at hi; (try clear hac); (try clear hQl0); (try clear hQl1); (try simp only [ncast, List.length_replicate] at *); omega)) ?_; rcases lt_two hj with rfl | rfl <;> first | rfl | (simp only [← hθ, Θ, stdP, std]; rfl)))
    | (intro i hi j hj; first | rfl | (refine pappS hθ (c38 θ) _ _ _ _ i j (by first | exact hi | (simp only [← hθ, Θ, stdP, std] at hi; (try clear hac); (try clear hQl0); (try clear hQl1); (try simp only [ncast, List.length_replicate] at *); omega)) ?_; rcases lt_seven hj with rfl | rfl | rfl | rfl | rfl | rfl | rfl <;> first | rfl | (simp only [← hθ, Θ, stdP, std]; rfl)))
    | (intro i hi j hj; first | rfl | ((obtain rfl : j = 0 := by omega); first | exact plit1 hθ _ _ _ hi | exact papp1 hθ _ _ _ _ (by first | exact hi | (simp only [← hθ, Θ, stdP, std] at hi; (try clear hac); (try clear hQl0); (try clear hQl1); (try simp only [ncast, List.length_replicate] at *); omega)) | ((try rw [pset hθ]); (try rw [psetz hθ]); (try rw [papp hθ]); (try rw [pover hθ]); (try rw [pover1 hθ]); (try rw [poverz hθ _ _ _ _ _ rfl]); (simp only [Int.zero_sub, condEq, decTrue, nstr2, nbl, nrdB, ← hθ, Θ, stdP, std, cmpI, ari, shf, una, mxI, nw64, nw8, nshr, nshl, nbyte, nmx, nmn, nrd, n_T36, n_T38, repD, repDB, condSelf] at hi ⊢); first | done | rfl | (refine scC ?_; first | rfl | exact setD _ _ _ _ (by (try clear hac); (try clear hQl0); (try clear hQl1); (try simp only [ncast, List.length_replicate] at *); omega) | exact setDz _ _ _ _ (by (try clear hac); (try clear hQl0); (try clear hQl1); (try simp only [ncast, List.length_replicate] at *); omega) | exact appD _ _ _ | exact padD _ _ _ | exact nbo _ _) | (refine scB ?_; first | rfl | exact setDB _ _ _ _ (by (try clear hac); (try clear hQl0); (try clear hQl1); (try simp only [ncast, List.length_replicate] at *); omega) | exact setDBz _ _ _ _ (by (try clear hac); (try clear hQl0); (try clear hQl1); (try simp only [ncast, List.length_replicate] at *); omega)) | fail)))
    | rfl
    | (simp only [Int.zero_sub, condEq, decTrue, nstr2, nbl, nrdB, ← hθ, Θ, stdP, std, cmpI, ari, shf, una, mxI, nw64, nw8, nshr, nshl, nbyte, nmx, nmn, nrd, n_T36, n_T38]; done)
    | ((try simp only [Int.zero_sub, condEq, decTrue, nstr2, nbl, nrdB, ← hθ, Θ, stdP, std, cmpI, ari, shf, una, mxI, nw64, nw8, nshr, nshl, nbyte, nmx, nmn, nrd, n_T36, n_T38, true_and, and_true]); (try clear hac); (try clear hQl0); (try clear hQl1); (try simp only [ncast] at *); first | trivial | omega | (refine ⟨?_, ?_⟩ <;> omega) | (refine ⟨?_, ?_, ?_, ?_⟩ <;> omega) | (simp; done) | (simp; omega) | fail)
end Go.Proofs.YtlpcphndgjibpaaDoor.Rx
