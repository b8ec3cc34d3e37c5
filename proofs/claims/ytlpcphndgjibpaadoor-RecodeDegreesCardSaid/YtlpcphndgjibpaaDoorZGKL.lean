/- Written by wip/gen/tie.py: what the program's functions come to, by the plain functions of the same names. No condition. -/
import Derived.Test.YtlpcphndgjibpaaDoorZGKA
namespace Go.Proofs.YtlpcphndgjibpaaDoor.Rx
open Go Go.Proofs Go.Proofs.YtlpcphndgjibpaaDoor.P Go.RowKit Go.Proofs.YtlpcphndgjibpaaDoorW.PrintWords Go.Proofs.YtlpcphndgjibpaaDoorW.PrintLast Go.Proofs.YtlpcphndgjibpaaDoorW.PrintMore
set_option linter.unusedVariables false
set_option linter.unusedSimpArgs false
set_option maxRecDepth 100000
theorem bucketlinelaw18_RecodeChooses.j0_s {r : Bool} : ∀ {k : Nat} {x0 : List (S36)} {x1 : Int} {x2 : Int} {x13 : Bool}, bucketlinelaw18_RecodeChooses.j0 k x0 x1 x2 x13 = some r → ∃ q, q < k ∧ (if x13 = true then ((bucketlinelaw18_awake.f).bind fun t217 => (some t217)) else ((recode_Choose.f q x0 x1 x2).bind fun t218 => ((bucketlineref18_Choose.f q x0 x1 x2).bind fun t221 => ((bucketlineref01_Ints.f q t218 t221).bind fun t224 => (if t224 = true then ((bucketlinelaw18_awake.f).bind fun t225 => (some t225)) else (none)))))) = some r
  | 0, _, _, _, _, h => by cases h
  | k + 1, _, _, _, _, h => ⟨k, Nat.lt_succ_self k, h⟩
theorem bucketlinelaw18_RecodeDegrees.j0_s {r : Bool} : ∀ {k : Nat} {x0 : List (S36)} {x1 : List Int} {x12 : Bool}, bucketlinelaw18_RecodeDegrees.j0 k x0 x1 x12 = some r → ∃ q, q < k ∧ (if x12 = true then ((bucketlinelaw18_awake.f).bind fun t252 => (some t252)) else ((recode_Degree.f q x0 x1).bind fun t253 => ((bucketlineref18_Degree.f q x0 x1).bind fun t254 => (if t253 = t254 then ((bucketlinelaw18_awake.f).bind fun t255 => (some t255)) else (none))))) = some r
  | 0, _, _, _, h => by cases h
  | k + 1, _, _, _, h => ⟨k, Nat.lt_succ_self k, h⟩
set_option maxHeartbeats 4000000 in
theorem ac_bucketlinelaw18_RecodeDegrees {k : Nat} {l0 : List (S36)} {l1 : List Int} {r : Bool} (h : bucketlinelaw18_RecodeDegrees.f k l0 l1 = some r) : AC Tryd.prog N0 G0 4 [] [.c (.d (est_36 Θ l0)), .c (.d (eI Θ .i64 l1))] [] (.c (.d (.sc (.bool r)))) := by
  refine ac_mk Tryd.func4 rfl (by decide) rfl ?_
  generalize hθ : Θ = θ
  rw [bucketlinelaw18_RecodeDegrees.f] at h
  cbv
  repeat' first
    | ((with_reducible refine pre_and ?_ ?_); rotate_left; (try cbv))
    | with_reducible exact noneO h
    | ((with_reducible replace h := iteO h); rcases h with ⟨hc, h⟩ | ⟨hc, h⟩ <;> (try simp only [decide_eq_true_eq, decide_eq_false_iff_not, beq_iff_eq, bne_iff_ne, beq_eq_false_iff_ne, bne_eq_false_iff_eq, ne_eq, Bool.not_eq_true', Bool.not_eq_false', Bool.not_eq_true, Bool.not_eq_false, Bool.and_eq_true, gt_iff_lt, ge_iff_le, Int.not_lt, Int.not_le] at hc))
    | with_reducible replace h := someB h
    | ((with_reducible replace h := bucketlinelaw18_RecodeDegrees.j0_s h); obtain ⟨k, hk, h⟩ := h)
    | ((with_reducible replace h := bindO h); obtain ⟨t, ht, h⟩ := h; have hac := ac_bucketlinelaw02_Few ht; (try rw [hθ] at hac); refine call_rule' hθ hac rfl rfl ?_ rfl ?_; clear hac; rotate_left; (try cbv))
    | ((with_reducible replace h := bindO h); obtain ⟨t, ht, h⟩ := h; have hac := ac_bucketlinelaw18_awake ht; (try rw [hθ] at hac); refine call_rule' hθ hac rfl rfl ?_ rfl ?_; clear hac; rotate_left; (try cbv))
    | ((with_reducible replace h := bindO h); obtain ⟨t, ht, h⟩ := h; have hac := ac_recode_Degree ht; (try rw [hθ] at hac); refine call_rule' hθ hac rfl rfl ?_ rfl ?_; clear hac; rotate_left; (try cbv))
    | ((with_reducible replace h := bindO h); obtain ⟨t, ht, h⟩ := h; have hac := ac_bucketlineref18_Degree ht; (try rw [hθ] at hac); refine call_rule' hθ hac rfl rfl ?_ rfl ?_; clear hac; rotate_left; (try cbv))
    | ((with_reducible replace h := Option.some.inj h); subst h; simp only [← hθ, Θ, stdP, std]; refine exp_of0 ?_)
    | (split <;> (try (rename_i heq; simp only [Int.zero_sub, condEq, decTrue, nstr2, nbl, nrdB, ← hθ, Θ, stdP, std, cmpI, ari, shf, una, mxI, nw64, nw8, nshr, nshl, nbyte, nmx, nmn, nrd, n_T36, n_T38, decide_eq_true_eq, decide_eq_false_iff_not, beq_iff_eq, bne_iff_ne, beq_eq_false_iff_ne, bne_eq_false_iff_eq, ne_eq, Bool.not_eq_true', Bool.not_eq_false', Bool.not_eq_true, Bool.not_eq_false, Bool.and_eq_true, gt_iff_lt, ge_iff_le, Int.not_lt, Int.not_le] at heq)) <;> first | (exfalso; (try clear hac); (try simp only [ncast, List.length_replicate] at *); omega) | (exfalso; rw [heq] at hc; cases hc; done) | (exfalso; exact absurd hc heq) | (exfalso; exact absurd heq hc) | (exfalso; (try clear hac); simp_all; done) | (try cbv))
  iterate 3 all_goals repeat' first
    | with_reducible exact esle_nil
    | ((with_reducible apply esle_c); · first | rfl | exact rfl)
    | ((with_reducible apply esle_a); · first | rfl | exact rfl)
    | with_reducible exact bsle_nil
    | with_reducible refine bsle_cons ?_ ?_
    | with_reducible exact dts_nil
    | with_reducible refine dts_cons ?_ ?_
    | with_reducible refine tle_int ?_
    | with_reducible refine tle_bool ?_
    | with_reducible refine tle_str ?_
    | ((with_reducible apply tle_own); · first | rfl | exact rfl)
    | ((with_reducible apply tle_nilown); · first | rfl | exact rfl)
    | with_reducible refine tle_sl ?_ ?_
    | with_reducible refine tle_nil ?_
    | ((with_reducible apply tle_ownd); rotate_left; · first | rfl | exact rfl; rotate_right)
    | with_reducible refine tle_agg ?_
    | with_reducible refine tle_tup ?_
    | with_reducible exact csle_nil
    | with_reducible refine csle_cons ?_ ?_
    | with_reducible exact tsle_nil
    | with_reducible refine tsle_cons ?_ ?_
    | with_reducible refine cle_int ?_
    | with_reducible refine cle_bool ?_
    | with_reducible refine cle_str ?_
    | ((with_reducible apply cle_own); · first | rfl | exact rfl)
    | ((with_reducible apply cle_nilown); · first | rfl | exact rfl)
    | with_reducible refine cle_sl ?_ ?_
    | with_reducible refine cle_nil ?_
    | ((with_reducible apply cle_ownd); rotate_left; · first | rfl | exact rfl; rotate_right)
    | with_reducible exact cle_rfl
    | ((with_reducible apply ble_vec); · first | rfl | exact rfl; · exact fun h => h)
    | with_reducible refine ble_none ?_
    | ((with_reducible apply ble_box); · first | rfl | exact rfl)
    | ((with_reducible apply tle_ptr); · first | rfl | exact rfl)
    | ((with_reducible apply tle_vptr); · first | rfl | exact rfl)
    | with_reducible exact ble_dead
    | ((with_reducible apply cle_ptr); · first | rfl | exact rfl)
    | with_reducible exact cle_junk
    | with_reducible refine dt_int ?_
    | with_reducible refine dt_bool ?_
    | with_reducible refine dt_str ?_
    | with_reducible refine dt_sl ?_ ?_
    | with_reducible refine dt_nil ?_
    | with_reducible refine dt_agg ?_
    | with_reducible exact dcs_nil
    | with_reducible refine dcs_cons ?_ ?_
    | with_reducible exact dcs_mapn
    | with_reducible refine dcs_mapc ?_ ?_
    | with_reducible exact dl_rfl
    | with_reducible refine dl_int ?_
    | with_reducible refine dl_bool ?_
    | with_reducible refine dl_str ?_
    | with_reducible refine dl_sl ?_ ?_
    | with_reducible refine dl_nil ?_
    | with_reducible exact nth_ne rfl
    | ((with_reducible apply nth_ne); exact rfl)
    | (intro i hi; exact ⟨_, rfl⟩)
    | (intro i hi j hj; first | rfl | ((obtain rfl : j = 0 := by omega); first | exact plit1 hθ _ _ _ hi | exact papp1 hθ _ _ _ _ (by first | exact hi | (simp only [← hθ, Θ, stdP, std] at hi; (try clear hac); (try simp only [ncast, List.length_replicate] at *); omega)) | ((try rw [pset hθ]); (try rw [psetz hθ]); (try rw [papp hθ]); (try rw [pover hθ]); (try rw [pover1 hθ]); (try rw [poverz hθ _ _ _ _ _ rfl]); (simp only [Int.zero_sub, condEq, decTrue, nstr2, nbl, nrdB, ← hθ, Θ, stdP, std, cmpI, ari, shf, una, mxI, nw64, nw8, nshr, nshl, nbyte, nmx, nmn, nrd, n_T36, n_T38, repD, repDB, condSelf] at hi ⊢); first | done | rfl | (refine scC ?_; first | rfl | exact setD _ _ _ _ (by (try clear hac); (try simp only [ncast, List.length_replicate] at *); omega) | exact setDz _ _ _ _ (by (try clear hac); (try simp only [ncast, List.length_replicate] at *); omega) | exact appD _ _ _ | exact padD _ _ _ | exact nbo _ _) | (refine scB ?_; first | rfl | exact setDB _ _ _ _ (by (try clear hac); (try simp only [ncast, List.length_replicate] at *); omega) | exact setDBz _ _ _ _ (by (try clear hac); (try simp only [ncast, List.length_replicate] at *); omega)) | fail)))
    | rfl
    | (simp only [Int.zero_sub, condEq, decTrue, nstr2, nbl, nrdB, ← hθ, Θ, stdP, std, cmpI, ari, shf, una, mxI, nw64, nw8, nshr, nshl, nbyte, nmx, nmn, nrd, n_T36, n_T38]; done)
    | ((try simp only [Int.zero_sub, condEq, decTrue, nstr2, nbl, nrdB, ← hθ, Θ, stdP, std, cmpI, ari, shf, una, mxI, nw64, nw8, nshr, nshl, nbyte, nmx, nmn, nrd, n_T36, n_T38, true_and, and_true]); (try clear hac); (try simp only [ncast] at *); first | trivial | omega | (refine ⟨?_, ?_⟩ <;> omega) | (refine ⟨?_, ?_, ?_, ?_⟩ <;> omega) | (simp; done) | (simp; omega) | fail)
theorem bucketlinelaw18_RecodeMixes.j0_s {r : Bool} : ∀ {k : Nat} {x0 : List (S38)} {x1 : List Int} {x16 : Bool}, bucketlinelaw18_RecodeMixes.j0 k x0 x1 x16 = some r → ∃ q, q < k ∧ (if x16 = true then ((bucketlinelaw18_awake.f).bind fun t292 => (some t292)) else ((recode_Mix.f q x0 x1).bind fun bt293 => ((bucketlineref18_Mix.f q x0 x1).bind fun bt304 => ((bucketlineref07_Same.f q bt293.1 bt293.2.1 bt293.2.2.1 bt293.2.2.2.1 bt293.2.2.2.2.1 bt293.2.2.2.2.2.1 bt293.2.2.2.2.2.2.1 bt304.1 bt304.2.1 bt304.2.2.1 bt304.2.2.2.1 bt304.2.2.2.2.1 bt304.2.2.2.2.2.1 bt304.2.2.2.2.2.2.1).bind fun t315 => (if t315 = true then (if (bt293.2.2.2.2.2.2.2 == bt304.2.2.2.2.2.2.2) = true then ((bucketlinelaw18_awake.f).bind fun t316 => (some t316)) else (none)) else (none)))))) = some r
  | 0, _, _, _, h => by cases h
  | k + 1, _, _, _, h => ⟨k, Nat.lt_succ_self k, h⟩
theorem bucketlinelaw18_RecodeNearer.j0_s {r : Bool} : ∀ {k : Nat} {x0 : List (S36)} {x1 : Int} {x2 : Int} {x25 : Bool}, bucketlinelaw18_RecodeNearer.j0 k x0 x1 x2 x25 = some r → ∃ q, q < k ∧ (if x25 = true then ((bucketlinelaw18_awake.f).bind fun t319 => (some t319)) else (if (x0.length : Int) = 0 then (none) else ((recode_Choose.f q x0 x1 x2).bind fun t320 => (bucketlinelaw18_RecodeNearer.l0 q x0 x2 (x0.length : Int) (Int.tmod (wrap64 ((Int.tmod x1 (x0.length : Int)) + (x0.length : Int))) (x0.length : Int)) t320 false 0)))) = some r
  | 0, _, _, _, _, h => by cases h
  | k + 1, _, _, _, _, h => ⟨k, Nat.lt_succ_self k, h⟩
theorem bucketlinelaw18_RecodeNearer.l0_s {r : Bool} : ∀ {k : Nat} {x0 : List (S36)} {x2 : Int} {x7 : Int} {x8 : Int} {x9 : List Int} {x10 : Bool} {x11 : Int}, bucketlinelaw18_RecodeNearer.l0 k x0 x2 x7 x8 x9 x10 x11 = some r → ∃ q, q < k ∧ (if x11 < (x9.length : Int) then (if 0 ≤ x11 then (if (rd x9 x11) < 0 then (none) else (if (rd x9 x11) ≥ x7 then (none) else (if x11 > 0 then (if 0 ≤ (wrap64 (x11 - 1)) then (if (wrap64 (x11 - 1)) < (x9.length : Int) then (if (rd x9 x11) ≤ (rd x9 (wrap64 (x11 - 1))) then (none) else (if x10 = true then (bucketlinelaw18_RecodeNearer.l0 q x0 x2 x7 x8 x9 true (wrap64 (x11 + 1))) else (bucketlinelaw18_RecodeNearer.l0 q x0 x2 x7 x8 x9 ((rd x9 x11) == x8) (wrap64 (x11 + 1))))) else (none)) else (none)) else (if x10 = true then (bucketlinelaw18_RecodeNearer.l0 q x0 x2 x7 x8 x9 true (wrap64 (x11 + 1))) else (bucketlinelaw18_RecodeNearer.l0 q x0 x2 x7 x8 x9 ((rd x9 x11) == x8) (wrap64 (x11 + 1))))))) else (none)) else ((bucketlineref18_Degree.f q x0 x9).bind fun t329 => ((bucketlineref18_Degree.f q x0 (([x8] : List Int))).bind fun t333 => (if x10 = true then (if (x9.length : Int) ≤ 32 then (if (mx (wrap64 (x2 - t329)) (wrap64 (-(wrap64 (x2 - t329))))) ≤ (mx (wrap64 (x2 - t333)) (wrap64 (-(wrap64 (x2 - t333))))) then ((bucketlinelaw18_awake.f).bind fun t334 => (some t334)) else (none)) else (none)) else (none))))) = some r
  | 0, _, _, _, _, _, _, _, h => by cases h
  | k + 1, _, _, _, _, _, _, _, h => ⟨k, Nat.lt_succ_self k, h⟩
end Go.Proofs.YtlpcphndgjibpaaDoor.Rx
