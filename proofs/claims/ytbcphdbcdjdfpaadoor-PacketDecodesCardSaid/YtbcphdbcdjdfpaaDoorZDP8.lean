/- Written by wip/gen/gen.py (a program of ours) over the seat translation: for each Go function a Lean function with the same answers, and the proof that the call comes to them. No condition. -/
import Derived.Test.YtbcphdbcdjdfpaaDoorZDP0
import Derived.Test.YtbcphdbcdjdfpaaDoorZDP6
import Derived.Test.YtbcphdbcdjdfpaaDoorZDP7
namespace Go.Proofs.YtbcphdbcdjdfpaaDoor.P
open Go.RowKit Go.Proofs.YtbcphdbcdjdfpaaDoorW.PrintWords Go.Proofs.YtbcphdbcdjdfpaaDoorW.PrintLast Go.Proofs.YtbcphdbcdjdfpaaDoorW.PrintMore
attribute [local go_sem] max2_int min2_int max_two min_two max_three min_three max_four min_four   -- for this text's walks alone
set_option linter.unusedVariables false
set_option linter.unusedSimpArgs false
/-! ### bucketlineref07_Check: function 14 -/
def bucketlineref07_Check.j0 : Nat → Bool → Int → Int → Int → Int → Int → List Int → ByteArray → Option (Int)
  | 0, _, _, _, _, _, _, _, _ => none
  | k + 1, x3, x157000, x157001, x157002, x157003, x157004, x157005, x157006 => if x3 = true then (if x157001 < 0 then (some 1) else (if x157001 > (wrap64 (x157002 * x157003)) then (some 1) else ((bucketlineref01_Valid.f k x157002 x157005).bind fun t158 => (if t158 = true then ((bucketlineref01_Count.f k x157005).bind fun t159 => (if t159 = 0 then (some 1) else (if (x157006.size : Int) = x157003 then (some 0) else (some 1)))) else (some 1))))) else (some 1)
def bucketlineref07_Check.f (k : Nat) (a0_0 : Int) (a0_1 : Int) (a0_2 : Int) (a0_3 : Int) (a0_4 : Int) (l0_5 : List Int) (a0_6 : ByteArray) : Option (Int) := if a0_0 ≥ 0 then (if a0_0 ≤ 4294967295 then ((bucketlineref07_sizes.f a0_2 a0_3).bind fun t157 => (if t157 = true then (if a0_4 ≥ 0 then (bucketlineref07_Check.j0 k (decide (a0_4 ≤ 15)) a0_0 a0_1 a0_2 a0_3 a0_4 l0_5 a0_6) else (bucketlineref07_Check.j0 k false a0_0 a0_1 a0_2 a0_3 a0_4 l0_5 a0_6)) else (bucketlineref07_Check.j0 k false a0_0 a0_1 a0_2 a0_3 a0_4 l0_5 a0_6))) else (bucketlineref07_Check.j0 k false a0_0 a0_1 a0_2 a0_3 a0_4 l0_5 a0_6)) else (bucketlineref07_Check.j0 k false a0_0 a0_1 a0_2 a0_3 a0_4 l0_5 a0_6)
set_option maxHeartbeats 8000000 in
set_option maxRecDepth 100000 in
theorem bucketlineref07_Check.calls (k : Nat) (a0_0 : Int) (a0_1 : Int) (a0_2 : Int) (a0_3 : Int) (a0_4 : Int) (A0_5 : Option Addr) (c0_5 : Nat) (l0_5 : List Int) (a0_6 : ByteArray) (r : Int) (w : World) (hr0_5 : Kd.C (Kd.int .u64) w A0_5 l0_5.length l0_5) (hc0_5 : l0_5.length ≤ c0_5) (h : bucketlineref07_Check.f k a0_0 a0_1 a0_2 a0_3 a0_4 l0_5 a0_6 = some r) :
    Calls Tryd.prog 14 #[.agg #[.int .i64 a0_0, .int .i64 a0_1, .int .i64 a0_2, .int .i64 a0_3, .int .i64 a0_4, .slice A0_5 l0_5.length c0_5, .string a0_6]] w fun e w' => e = .returned (.int .i64 r) ∧ Below w.heap.size w w' := by
  have hu26 := Tryd.underlying26
  have HR0_5 := Aside0.mk hr0_5
  have HC0_5 := Aside0.mk hc0_5
  clear hr0_5 hc0_5
  have HB := Aside0.mk (Below.refl w.heap.size w)
  have H : (if a0_0 ≥ 0 then (if a0_0 ≤ 4294967295 then ((bucketlineref07_sizes.f a0_2 a0_3).bind fun t157 => (if t157 = true then (if a0_4 ≥ 0 then (bucketlineref07_Check.j0 k (decide (a0_4 ≤ 15)) a0_0 a0_1 a0_2 a0_3 a0_4 l0_5 a0_6) else (bucketlineref07_Check.j0 k false a0_0 a0_1 a0_2 a0_3 a0_4 l0_5 a0_6)) else (bucketlineref07_Check.j0 k false a0_0 a0_1 a0_2 a0_3 a0_4 l0_5 a0_6))) else (bucketlineref07_Check.j0 k false a0_0 a0_1 a0_2 a0_3 a0_4 l0_5 a0_6)) else (bucketlineref07_Check.j0 k false a0_0 a0_1 a0_2 a0_3 a0_4 l0_5 a0_6)) = some r := h
  clear h
  have HC2 := Aside0.mk H
  clear H
  go_enter Tryd.func14, Tryd.ntmps14
  go_upto_region 1 with (first | ((with_reducible refine gate_dst (N := 1) rfl ?_); (try (refine gate_guard (by rfl) ?_; dsimp only)); refine box_event ?hg (N := 1) ?hd (cs := #[.int .i64 a0_0, .int .i64 a0_1, .int .i64 a0_2, .int .i64 a0_3, .int .i64 a0_4, .slice A0_5 l0_5.length c0_5, .string a0_6]) (t := 26) ?hr ?_; (case hd => rfl); (case hg => rfl); (case hr => first | (go_simp; done) | (go_simp; rfl)); intro gb156 hg w3 hbox hb; have n0_ := Aside0.mk (below_step (by repeat (first | (with_reducible first | exact HB.out | apply below_alloc | apply pw_below_drewN | apply below_drew1) | exact HB.out)) hb); have n1_ := Aside0.mk (hbox); have n2_ := Aside0.mk ((by rw [hg]; exact (below_size (by repeat (first | (with_reducible first | exact HB.out | apply below_alloc | apply pw_below_drewN | apply below_drew1) | exact HB.out))) : w.heap.size ≤ gb156)); have n3_ := Aside0.mk ((by rw [hg]; exact (below_size (by repeat (first | (with_reducible first | exact HB.out | apply below_alloc | apply pw_below_drewN | apply below_drew1) | exact HB.out))) : w.heap.size ≤ gb156)); clear HB; have HB := n0_; have BK156 := n1_; have GW156 := n2_; have GE156 := n3_; clear n0_ n1_ n2_ n3_; clear hb hbox hg))
  (try simp only [Act.put, List.setIfInBounds_toArray, List.set_cons_zero, List.set_cons_succ])
  go_cut [3] (fun v3 wc => ∃ (kq : Nat) (x3_1 : Bool), v3 = .bool x3_1 ∧ Aside0 (bucketlineref07_Check.j0 kq x3_1 a0_0 a0_1 a0_2 a0_3 a0_4 l0_5 a0_6 = some r) ∧ Aside0 (kq ≤ k) ∧ Aside0 (wc.heap[gb156]? = some (.cells #[.int .i64 a0_0, .int .i64 a0_1, .int .i64 a0_2, .int .i64 a0_3, .int .i64 a0_4, (.slice A0_5 l0_5.length c0_5), .string a0_6] 26 (0, 0))) ∧ Aside0 (Below w.heap.size w wc))
  case first =>
    have H := HC2.out
    clear HC2
    by_cases c4 : a0_0 ≥ 0
    · rw [if_pos c4] at H
      have c4b0 : decide (0 ≤ a0_0) = true := decide_eq_true c4
      clear c4
      (first | rw [c4b0] | (simp only [i64_w, i32_w]; rw [c4b0]) | skip)
      by_cases c5 : a0_0 ≤ 4294967295
      · rw [if_pos c5] at H
        have c5b0 : decide (a0_0 ≤ 4294967295) = true := decide_eq_true c5
        clear c5
        replace H := Option.bind_eq_some_iff.mp H
        obtain ⟨t157, A60, H⟩ := H
        replace H : (if t157 = true then (if a0_4 ≥ 0 then (bucketlineref07_Check.j0 k (decide (a0_4 ≤ 15)) a0_0 a0_1 a0_2 a0_3 a0_4 l0_5 a0_6) else (bucketlineref07_Check.j0 k false a0_0 a0_1 a0_2 a0_3 a0_4 l0_5 a0_6)) else (bucketlineref07_Check.j0 k false a0_0 a0_1 a0_2 a0_3 a0_4 l0_5 a0_6)) = some r := H
        have A6 := Aside0.mk A60
        clear A60
        by_cases c7 : t157 = true
        · subst c7
          have H1 : (if a0_4 ≥ 0 then (bucketlineref07_Check.j0 k (decide (a0_4 ≤ 15)) a0_0 a0_1 a0_2 a0_3 a0_4 l0_5 a0_6) else (bucketlineref07_Check.j0 k false a0_0 a0_1 a0_2 a0_3 a0_4 l0_5 a0_6)) = some r := by rw [if_pos rfl] at H; exact H
          clear H
          have H := H1
          clear H1
          by_cases c8 : a0_4 ≥ 0
          · rw [if_pos c8] at H
            have c8b0 : decide (0 ≤ a0_4) = true := decide_eq_true c8
            clear c8
            have H' := Aside0.mk H
            clear H
            have hcz9_0 : w3.cell? ⟨gb156, 0, none⟩ = some (.int .i64 a0_0) := (blk_cell BK156.out 0).trans rfl
            have hcz9_1 : w3.cell? ⟨gb156, 1, none⟩ = some (.int .i64 a0_1) := (blk_cell BK156.out 1).trans rfl
            have hcz9_2 : w3.cell? ⟨gb156, 2, none⟩ = some (.int .i64 a0_2) := (blk_cell BK156.out 2).trans rfl
            have hcz9_3 : w3.cell? ⟨gb156, 3, none⟩ = some (.int .i64 a0_3) := (blk_cell BK156.out 3).trans rfl
            have hcz9_4 : w3.cell? ⟨gb156, 4, none⟩ = some (.int .i64 a0_4) := (blk_cell BK156.out 4).trans rfl
            have hcz9_5 : w3.cell? ⟨gb156, 5, none⟩ = some (.slice A0_5 l0_5.length c0_5) := (blk_cell BK156.out 5).trans rfl
            have hcz9_6 : w3.cell? ⟨gb156, 6, none⟩ = some (.string a0_6) := (blk_cell BK156.out 6).trans rfl
            have hfz9_0 := blk_frozen BK156.out 0
            have hfz9_1 := blk_frozen BK156.out 1
            have hfz9_2 := blk_frozen BK156.out 2
            have hfz9_3 := blk_frozen BK156.out 3
            have hfz9_4 := blk_frozen BK156.out 4
            have hfz9_5 := blk_frozen BK156.out 5
            have hfz9_6 := blk_frozen BK156.out 6
            go_wp2_with (first | (go_at_call 36; (with_reducible refine (bucketlineref07_sizes.calls a0_2 a0_3 true _ A6.out).mono ?_); rintro e w' ⟨rfl, ⟨nd, rfl⟩⟩))
            go_meet
            case rel => exact ⟨_, (decide (a0_4 ≤ 15)), (by first | rfl | (simp; done) | (simp [*]; done)), H', ⟨by first | omega | exact Nat.le_refl _⟩, ⟨by (with_reducible repeat (first | refine blk_drewN ?_ _ | refine blk_drew ?_ | refine blk_alloc ?_ _)); exact BK156.out⟩, ⟨by repeat (first | (with_reducible first | exact HB.out | apply below_alloc | apply pw_below_drewN | apply below_drew1 | refine below_set ?_ GE156.out) | exact HB.out)⟩⟩
          · rw [if_neg c8] at H
            have c8b0 : decide (0 ≤ a0_4) = false := decide_eq_false c8
            clear c8
            have H' := Aside0.mk H
            clear H
            have hcz10_0 : w3.cell? ⟨gb156, 0, none⟩ = some (.int .i64 a0_0) := (blk_cell BK156.out 0).trans rfl
            have hcz10_1 : w3.cell? ⟨gb156, 1, none⟩ = some (.int .i64 a0_1) := (blk_cell BK156.out 1).trans rfl
            have hcz10_2 : w3.cell? ⟨gb156, 2, none⟩ = some (.int .i64 a0_2) := (blk_cell BK156.out 2).trans rfl
            have hcz10_3 : w3.cell? ⟨gb156, 3, none⟩ = some (.int .i64 a0_3) := (blk_cell BK156.out 3).trans rfl
            have hcz10_4 : w3.cell? ⟨gb156, 4, none⟩ = some (.int .i64 a0_4) := (blk_cell BK156.out 4).trans rfl
            have hcz10_5 : w3.cell? ⟨gb156, 5, none⟩ = some (.slice A0_5 l0_5.length c0_5) := (blk_cell BK156.out 5).trans rfl
            have hcz10_6 : w3.cell? ⟨gb156, 6, none⟩ = some (.string a0_6) := (blk_cell BK156.out 6).trans rfl
            have hfz10_0 := blk_frozen BK156.out 0
            have hfz10_1 := blk_frozen BK156.out 1
            have hfz10_2 := blk_frozen BK156.out 2
            have hfz10_3 := blk_frozen BK156.out 3
            have hfz10_4 := blk_frozen BK156.out 4
            have hfz10_5 := blk_frozen BK156.out 5
            have hfz10_6 := blk_frozen BK156.out 6
            go_wp2_with (first | (go_at_call 36; (with_reducible refine (bucketlineref07_sizes.calls a0_2 a0_3 true _ A6.out).mono ?_); rintro e w' ⟨rfl, ⟨nd, rfl⟩⟩))
            go_meet
            case rel => exact ⟨_, (false), (by first | rfl | (simp; done) | (simp [*]; done)), H', ⟨by first | omega | exact Nat.le_refl _⟩, ⟨by (with_reducible repeat (first | refine blk_drewN ?_ _ | refine blk_drew ?_ | refine blk_alloc ?_ _)); exact BK156.out⟩, ⟨by repeat (first | (with_reducible first | exact HB.out | apply below_alloc | apply pw_below_drewN | apply below_drew1 | refine below_set ?_ GE156.out) | exact HB.out)⟩⟩
        · replace c7 := Bool.eq_false_iff.mpr c7
          subst c7
          have H1 : (bucketlineref07_Check.j0 k false a0_0 a0_1 a0_2 a0_3 a0_4 l0_5 a0_6) = some r := by rw [if_neg (show ¬ (false = true) by decide)] at H; exact H
          clear H
          have H := H1
          clear H1
          have H' := Aside0.mk H
          clear H
          have hcz11_0 : w3.cell? ⟨gb156, 0, none⟩ = some (.int .i64 a0_0) := (blk_cell BK156.out 0).trans rfl
          have hcz11_1 : w3.cell? ⟨gb156, 1, none⟩ = some (.int .i64 a0_1) := (blk_cell BK156.out 1).trans rfl
          have hcz11_2 : w3.cell? ⟨gb156, 2, none⟩ = some (.int .i64 a0_2) := (blk_cell BK156.out 2).trans rfl
          have hcz11_3 : w3.cell? ⟨gb156, 3, none⟩ = some (.int .i64 a0_3) := (blk_cell BK156.out 3).trans rfl
          have hcz11_4 : w3.cell? ⟨gb156, 4, none⟩ = some (.int .i64 a0_4) := (blk_cell BK156.out 4).trans rfl
          have hcz11_5 : w3.cell? ⟨gb156, 5, none⟩ = some (.slice A0_5 l0_5.length c0_5) := (blk_cell BK156.out 5).trans rfl
          have hcz11_6 : w3.cell? ⟨gb156, 6, none⟩ = some (.string a0_6) := (blk_cell BK156.out 6).trans rfl
          have hfz11_0 := blk_frozen BK156.out 0
          have hfz11_1 := blk_frozen BK156.out 1
          have hfz11_2 := blk_frozen BK156.out 2
          have hfz11_3 := blk_frozen BK156.out 3
          have hfz11_4 := blk_frozen BK156.out 4
          have hfz11_5 := blk_frozen BK156.out 5
          have hfz11_6 := blk_frozen BK156.out 6
          go_wp2_with (first | (go_at_call 36; (with_reducible refine (bucketlineref07_sizes.calls a0_2 a0_3 false _ A6.out).mono ?_); rintro e w' ⟨rfl, ⟨nd, rfl⟩⟩))
          go_meet
          case rel => exact ⟨_, (false), (by first | rfl | (simp; done) | (simp [*]; done)), H', ⟨by first | omega | exact Nat.le_refl _⟩, ⟨by (with_reducible repeat (first | refine blk_drewN ?_ _ | refine blk_drew ?_ | refine blk_alloc ?_ _)); exact BK156.out⟩, ⟨by repeat (first | (with_reducible first | exact HB.out | apply below_alloc | apply pw_below_drewN | apply below_drew1 | refine below_set ?_ GE156.out) | exact HB.out)⟩⟩
      · rw [if_neg c5] at H
        have c5b0 : decide (a0_0 ≤ 4294967295) = false := decide_eq_false c5
        clear c5
        have H' := Aside0.mk H
        clear H
        have hcz12_0 : w3.cell? ⟨gb156, 0, none⟩ = some (.int .i64 a0_0) := (blk_cell BK156.out 0).trans rfl
        have hcz12_1 : w3.cell? ⟨gb156, 1, none⟩ = some (.int .i64 a0_1) := (blk_cell BK156.out 1).trans rfl
        have hcz12_2 : w3.cell? ⟨gb156, 2, none⟩ = some (.int .i64 a0_2) := (blk_cell BK156.out 2).trans rfl
        have hcz12_3 : w3.cell? ⟨gb156, 3, none⟩ = some (.int .i64 a0_3) := (blk_cell BK156.out 3).trans rfl
        have hcz12_4 : w3.cell? ⟨gb156, 4, none⟩ = some (.int .i64 a0_4) := (blk_cell BK156.out 4).trans rfl
        have hcz12_5 : w3.cell? ⟨gb156, 5, none⟩ = some (.slice A0_5 l0_5.length c0_5) := (blk_cell BK156.out 5).trans rfl
        have hcz12_6 : w3.cell? ⟨gb156, 6, none⟩ = some (.string a0_6) := (blk_cell BK156.out 6).trans rfl
        have hfz12_0 := blk_frozen BK156.out 0
        have hfz12_1 := blk_frozen BK156.out 1
        have hfz12_2 := blk_frozen BK156.out 2
        have hfz12_3 := blk_frozen BK156.out 3
        have hfz12_4 := blk_frozen BK156.out 4
        have hfz12_5 := blk_frozen BK156.out 5
        have hfz12_6 := blk_frozen BK156.out 6
        go_wp2
        go_meet
        case rel => exact ⟨_, (false), (by first | rfl | (simp; done) | (simp [*]; done)), H', ⟨by first | omega | exact Nat.le_refl _⟩, ⟨by (with_reducible repeat (first | refine blk_drewN ?_ _ | refine blk_drew ?_ | refine blk_alloc ?_ _)); exact BK156.out⟩, ⟨by repeat (first | (with_reducible first | exact HB.out | apply below_alloc | apply pw_below_drewN | apply below_drew1 | refine below_set ?_ GE156.out) | exact HB.out)⟩⟩
    · rw [if_neg c4] at H
      have c4b0 : decide (0 ≤ a0_0) = false := decide_eq_false c4
      clear c4
      (first | rw [c4b0] | (simp only [i64_w, i32_w]; rw [c4b0]) | skip)
      have H' := Aside0.mk H
      clear H
      have hcz13_0 : w3.cell? ⟨gb156, 0, none⟩ = some (.int .i64 a0_0) := (blk_cell BK156.out 0).trans rfl
      have hcz13_1 : w3.cell? ⟨gb156, 1, none⟩ = some (.int .i64 a0_1) := (blk_cell BK156.out 1).trans rfl
      have hcz13_2 : w3.cell? ⟨gb156, 2, none⟩ = some (.int .i64 a0_2) := (blk_cell BK156.out 2).trans rfl
      have hcz13_3 : w3.cell? ⟨gb156, 3, none⟩ = some (.int .i64 a0_3) := (blk_cell BK156.out 3).trans rfl
      have hcz13_4 : w3.cell? ⟨gb156, 4, none⟩ = some (.int .i64 a0_4) := (blk_cell BK156.out 4).trans rfl
      have hcz13_5 : w3.cell? ⟨gb156, 5, none⟩ = some (.slice A0_5 l0_5.length c0_5) := (blk_cell BK156.out 5).trans rfl
      have hcz13_6 : w3.cell? ⟨gb156, 6, none⟩ = some (.string a0_6) := (blk_cell BK156.out 6).trans rfl
      have hfz13_0 := blk_frozen BK156.out 0
      have hfz13_1 := blk_frozen BK156.out 1
      have hfz13_2 := blk_frozen BK156.out 2
      have hfz13_3 := blk_frozen BK156.out 3
      have hfz13_4 := blk_frozen BK156.out 4
      have hfz13_5 := blk_frozen BK156.out 5
      have hfz13_6 := blk_frozen BK156.out 6
      go_wp2
      go_meet
      case rel => exact ⟨_, (false), (by first | rfl | (simp; done) | (simp [*]; done)), H', ⟨by first | omega | exact Nat.le_refl _⟩, ⟨by (with_reducible repeat (first | refine blk_drewN ?_ _ | refine blk_drew ?_ | refine blk_alloc ?_ _)); exact BK156.out⟩, ⟨by repeat (first | (with_reducible first | exact HB.out | apply below_alloc | apply pw_below_drewN | apply below_drew1 | refine below_set ?_ GE156.out) | exact HB.out)⟩⟩
  case rest =>
    clear HC2
    try clear c1
    try clear p2
    try clear c4
    try clear c4b0
    try clear c5
    try clear c5b0
    try clear c7
    try clear c8
    try clear c8b0
    try clear hcz10_0
    try clear hcz10_1
    try clear hcz10_2
    try clear hcz10_3
    try clear hcz10_4
    try clear hcz10_5
    try clear hcz10_6
    try clear hcz11_0
    try clear hcz11_1
    try clear hcz11_2
    try clear hcz11_3
    try clear hcz11_4
    try clear hcz11_5
    try clear hcz11_6
    try clear hcz12_0
    try clear hcz12_1
    try clear hcz12_2
    try clear hcz12_3
    try clear hcz12_4
    try clear hcz12_5
    try clear hcz12_6
    try clear hcz13_0
    try clear hcz13_1
    try clear hcz13_2
    try clear hcz13_3
    try clear hcz13_4
    try clear hcz13_5
    try clear hcz13_6
    try clear hcz9_0
    try clear hcz9_1
    try clear hcz9_2
    try clear hcz9_3
    try clear hcz9_4
    try clear hcz9_5
    try clear hcz9_6
    try clear hfz10_0
    try clear hfz10_1
    try clear hfz10_2
    try clear hfz10_3
    try clear hfz10_4
    try clear hfz10_5
    try clear hfz10_6
    try clear hfz11_0
    try clear hfz11_1
    try clear hfz11_2
    try clear hfz11_3
    try clear hfz11_4
    try clear hfz11_5
    try clear hfz11_6
    try clear hfz12_0
    try clear hfz12_1
    try clear hfz12_2
    try clear hfz12_3
    try clear hfz12_4
    try clear hfz12_5
    try clear hfz12_6
    try clear hfz13_0
    try clear hfz13_1
    try clear hfz13_2
    try clear hfz13_3
    try clear hfz13_4
    try clear hfz13_5
    try clear hfz13_6
    try clear hfz9_0
    try clear hfz9_1
    try clear hfz9_2
    try clear hfz9_3
    try clear hfz9_4
    try clear hfz9_5
    try clear hfz9_6
    obtain ⟨kq, x3_1, rfl, HA, HJ1, BK156, HB⟩ := hcut
    cases kq with
    | zero => exact absurd HA.out (by simp [bucketlineref07_Check.j0])
    | succ kj1 =>
      have H := HA.out
      clear HA
      simp only [bucketlineref07_Check.j0] at H
      by_cases c14 : x3_1 = true
      · subst c14
        have H1 : (if a0_1 < 0 then (some 1) else (if a0_1 > (wrap64 (a0_2 * a0_3)) then (some 1) else ((bucketlineref01_Valid.f kj1 a0_2 l0_5).bind fun t158 => (if t158 = true then ((bucketlineref01_Count.f kj1 l0_5).bind fun t159 => (if t159 = 0 then (some 1) else (if (a0_6.size : Int) = a0_3 then (some 0) else (some 1)))) else (some 1))))) = some r := by rw [if_pos rfl] at H; exact H
        clear H
        have H := H1
        clear H1
        by_cases c15 : a0_1 < 0
        · rw [if_pos c15] at H
          have c15b0 : decide (a0_1 < 0) = true := decide_eq_true c15
          clear c15
          obtain rfl := Option.some.inj H
          have hcz16_0 : wc.cell? ⟨gb156, 0, none⟩ = some (.int .i64 a0_0) := (blk_cell BK156.out 0).trans rfl
          have hcz16_1 : wc.cell? ⟨gb156, 1, none⟩ = some (.int .i64 a0_1) := (blk_cell BK156.out 1).trans rfl
          have hcz16_2 : wc.cell? ⟨gb156, 2, none⟩ = some (.int .i64 a0_2) := (blk_cell BK156.out 2).trans rfl
          have hcz16_3 : wc.cell? ⟨gb156, 3, none⟩ = some (.int .i64 a0_3) := (blk_cell BK156.out 3).trans rfl
          have hcz16_4 : wc.cell? ⟨gb156, 4, none⟩ = some (.int .i64 a0_4) := (blk_cell BK156.out 4).trans rfl
          have hcz16_5 : wc.cell? ⟨gb156, 5, none⟩ = some (.slice A0_5 l0_5.length c0_5) := (blk_cell BK156.out 5).trans rfl
          have hcz16_6 : wc.cell? ⟨gb156, 6, none⟩ = some (.string a0_6) := (blk_cell BK156.out 6).trans rfl
          have hfz16_0 := blk_frozen BK156.out 0
          have hfz16_1 := blk_frozen BK156.out 1
          have hfz16_2 := blk_frozen BK156.out 2
          have hfz16_3 := blk_frozen BK156.out 3
          have hfz16_4 := blk_frozen BK156.out 4
          have hfz16_5 := blk_frozen BK156.out 5
          have hfz16_6 := blk_frozen BK156.out 6
          go_wp2
          go_ret
          exact ⟨by first | rfl | (simp [errW_none, errW_some] <;> rfl) | (simp [*, errW_none, errW_some] <;> rfl), by repeat (first | (with_reducible first | exact HB.out | apply below_alloc | apply pw_below_drewN | apply below_drew1 | refine below_set ?_ GE156.out) | exact HB.out)⟩
        · rw [if_neg c15] at H
          have c15b0 : decide (a0_1 < 0) = false := decide_eq_false c15
          clear c15
          by_cases c17 : a0_1 > (wrap64 (a0_2 * a0_3))
          · rw [if_pos c17] at H
            have c17b0 : decide ((wrap64 (a0_2 * a0_3)) < a0_1) = true := decide_eq_true c17
            clear c17
            obtain rfl := Option.some.inj H
            have hcz18_0 : wc.cell? ⟨gb156, 0, none⟩ = some (.int .i64 a0_0) := (blk_cell BK156.out 0).trans rfl
            have hcz18_1 : wc.cell? ⟨gb156, 1, none⟩ = some (.int .i64 a0_1) := (blk_cell BK156.out 1).trans rfl
            have hcz18_2 : wc.cell? ⟨gb156, 2, none⟩ = some (.int .i64 a0_2) := (blk_cell BK156.out 2).trans rfl
            have hcz18_3 : wc.cell? ⟨gb156, 3, none⟩ = some (.int .i64 a0_3) := (blk_cell BK156.out 3).trans rfl
            have hcz18_4 : wc.cell? ⟨gb156, 4, none⟩ = some (.int .i64 a0_4) := (blk_cell BK156.out 4).trans rfl
            have hcz18_5 : wc.cell? ⟨gb156, 5, none⟩ = some (.slice A0_5 l0_5.length c0_5) := (blk_cell BK156.out 5).trans rfl
            have hcz18_6 : wc.cell? ⟨gb156, 6, none⟩ = some (.string a0_6) := (blk_cell BK156.out 6).trans rfl
            have hfz18_0 := blk_frozen BK156.out 0
            have hfz18_1 := blk_frozen BK156.out 1
            have hfz18_2 := blk_frozen BK156.out 2
            have hfz18_3 := blk_frozen BK156.out 3
            have hfz18_4 := blk_frozen BK156.out 4
            have hfz18_5 := blk_frozen BK156.out 5
            have hfz18_6 := blk_frozen BK156.out 6
            go_wp2
            go_ret
            exact ⟨by first | rfl | (simp [errW_none, errW_some] <;> rfl) | (simp [*, errW_none, errW_some] <;> rfl), by repeat (first | (with_reducible first | exact HB.out | apply below_alloc | apply pw_below_drewN | apply below_drew1 | refine below_set ?_ GE156.out) | exact HB.out)⟩
          · rw [if_neg c17] at H
            have c17b0 : decide ((wrap64 (a0_2 * a0_3)) < a0_1) = false := decide_eq_false c17
            clear c17
            replace H := Option.bind_eq_some_iff.mp H
            obtain ⟨t158, A190, H⟩ := H
            replace H : (if t158 = true then ((bucketlineref01_Count.f kj1 l0_5).bind fun t159 => (if t159 = 0 then (some 1) else (if (a0_6.size : Int) = a0_3 then (some 0) else (some 1)))) else (some 1)) = some r := H
            have A19 := Aside0.mk A190
            clear A190
            by_cases c20 : t158 = true
            · subst c20
              have H1 : ((bucketlineref01_Count.f kj1 l0_5).bind fun t159 => (if t159 = 0 then (some 1) else (if (a0_6.size : Int) = a0_3 then (some 0) else (some 1)))) = some r := by rw [if_pos rfl] at H; exact H
              clear H
              have H := H1
              clear H1
              replace H := Option.bind_eq_some_iff.mp H
              obtain ⟨t159, A210, H⟩ := H
              replace H : (if t159 = 0 then (some 1) else (if (a0_6.size : Int) = a0_3 then (some 0) else (some 1))) = some r := H
              have A21 := Aside0.mk A210
              clear A210
              by_cases c22 : t159 = 0
              · rw [if_pos c22] at H
                have c22b0 : (t159 == 0) = true := beq_iff_eq.mpr c22
                have c22b1 : (t159 != 0) = false := bne_eq_false_iff_eq.mpr c22
                clear c22
                obtain rfl := Option.some.inj H
                have hcz23_0 : wc.cell? ⟨gb156, 0, none⟩ = some (.int .i64 a0_0) := (blk_cell BK156.out 0).trans rfl
                have hcz23_1 : wc.cell? ⟨gb156, 1, none⟩ = some (.int .i64 a0_1) := (blk_cell BK156.out 1).trans rfl
                have hcz23_2 : wc.cell? ⟨gb156, 2, none⟩ = some (.int .i64 a0_2) := (blk_cell BK156.out 2).trans rfl
                have hcz23_3 : wc.cell? ⟨gb156, 3, none⟩ = some (.int .i64 a0_3) := (blk_cell BK156.out 3).trans rfl
                have hcz23_4 : wc.cell? ⟨gb156, 4, none⟩ = some (.int .i64 a0_4) := (blk_cell BK156.out 4).trans rfl
                have hcz23_5 : wc.cell? ⟨gb156, 5, none⟩ = some (.slice A0_5 l0_5.length c0_5) := (blk_cell BK156.out 5).trans rfl
                have hcz23_6 : wc.cell? ⟨gb156, 6, none⟩ = some (.string a0_6) := (blk_cell BK156.out 6).trans rfl
                have hfz23_0 := blk_frozen BK156.out 0
                have hfz23_1 := blk_frozen BK156.out 1
                have hfz23_2 := blk_frozen BK156.out 2
                have hfz23_3 := blk_frozen BK156.out 3
                have hfz23_4 := blk_frozen BK156.out 4
                have hfz23_5 := blk_frozen BK156.out 5
                have hfz23_6 := blk_frozen BK156.out 6
                go_wp2_with (first | (go_at_call 37; (with_reducible refine (bucketlineref01_Valid.calls kj1 a0_2 _ _ l0_5 true _ ?side1 ?side2 A19.out).mono ?_); (case side1 => repeat (first | exact (Kd.C_below HR0_5.out HB.out) | (with_reducible refine Kd.C_alloc ?_ _) | (with_reducible refine Kd.C_drewN ?_ _) | (with_reducible refine Kd.C_drew ?_))); (case side2 => exact HC0_5.out); rintro e w' ⟨rfl, ⟨nd, rfl⟩⟩) | (go_at_call 38; (with_reducible refine (bucketlineref01_Count.calls kj1 _ _ l0_5 t159 _ ?side1 ?side2 A21.out).mono ?_); (case side1 => repeat (first | exact (Kd.C_below HR0_5.out (by repeat (first | (with_reducible first | exact HB.out | apply below_alloc | apply pw_below_drewN | apply below_drew1 | refine below_set ?_ GE156.out) | exact HB.out))) | (with_reducible refine Kd.C_alloc ?_ _) | (with_reducible refine Kd.C_drewN ?_ _) | (with_reducible refine Kd.C_drew ?_))); (case side2 => exact HC0_5.out); rintro e w' ⟨rfl, ⟨nd, rfl⟩⟩))
                go_ret
                exact ⟨by first | rfl | (simp [errW_none, errW_some] <;> rfl) | (simp [*, errW_none, errW_some] <;> rfl), by repeat (first | (with_reducible first | exact HB.out | apply below_alloc | apply pw_below_drewN | apply below_drew1 | refine below_set ?_ GE156.out) | exact HB.out)⟩
              · rw [if_neg c22] at H
                have c22b0 : (t159 == 0) = false := beq_eq_false_iff_ne.mpr c22
                have c22b1 : (t159 != 0) = true := bne_iff_ne.mpr c22
                by_cases c24 : (a0_6.size : Int) = a0_3
                · rw [if_pos c24] at H
                  have c24b0 : ((a0_6.size : Int) == a0_3) = true := beq_iff_eq.mpr c24
                  have c24b1 : ((a0_6.size : Int) != a0_3) = false := bne_eq_false_iff_eq.mpr c24
                  clear c24
                  obtain rfl := Option.some.inj H
                  have hcz25_0 : wc.cell? ⟨gb156, 0, none⟩ = some (.int .i64 a0_0) := (blk_cell BK156.out 0).trans rfl
                  have hcz25_1 : wc.cell? ⟨gb156, 1, none⟩ = some (.int .i64 a0_1) := (blk_cell BK156.out 1).trans rfl
                  have hcz25_2 : wc.cell? ⟨gb156, 2, none⟩ = some (.int .i64 a0_2) := (blk_cell BK156.out 2).trans rfl
                  have hcz25_3 : wc.cell? ⟨gb156, 3, none⟩ = some (.int .i64 a0_3) := (blk_cell BK156.out 3).trans rfl
                  have hcz25_4 : wc.cell? ⟨gb156, 4, none⟩ = some (.int .i64 a0_4) := (blk_cell BK156.out 4).trans rfl
                  have hcz25_5 : wc.cell? ⟨gb156, 5, none⟩ = some (.slice A0_5 l0_5.length c0_5) := (blk_cell BK156.out 5).trans rfl
                  have hcz25_6 : wc.cell? ⟨gb156, 6, none⟩ = some (.string a0_6) := (blk_cell BK156.out 6).trans rfl
                  have hfz25_0 := blk_frozen BK156.out 0
                  have hfz25_1 := blk_frozen BK156.out 1
                  have hfz25_2 := blk_frozen BK156.out 2
                  have hfz25_3 := blk_frozen BK156.out 3
                  have hfz25_4 := blk_frozen BK156.out 4
                  have hfz25_5 := blk_frozen BK156.out 5
                  have hfz25_6 := blk_frozen BK156.out 6
                  go_wp2_with (first | (go_at_call 37; (with_reducible refine (bucketlineref01_Valid.calls kj1 a0_2 _ _ l0_5 true _ ?side1 ?side2 A19.out).mono ?_); (case side1 => repeat (first | exact (Kd.C_below HR0_5.out HB.out) | (with_reducible refine Kd.C_alloc ?_ _) | (with_reducible refine Kd.C_drewN ?_ _) | (with_reducible refine Kd.C_drew ?_))); (case side2 => exact HC0_5.out); rintro e w' ⟨rfl, ⟨nd, rfl⟩⟩) | (go_at_call 38; (with_reducible refine (bucketlineref01_Count.calls kj1 _ _ l0_5 t159 _ ?side1 ?side2 A21.out).mono ?_); (case side1 => repeat (first | exact (Kd.C_below HR0_5.out (by repeat (first | (with_reducible first | exact HB.out | apply below_alloc | apply pw_below_drewN | apply below_drew1 | refine below_set ?_ GE156.out) | exact HB.out))) | (with_reducible refine Kd.C_alloc ?_ _) | (with_reducible refine Kd.C_drewN ?_ _) | (with_reducible refine Kd.C_drew ?_))); (case side2 => exact HC0_5.out); rintro e w' ⟨rfl, ⟨nd, rfl⟩⟩))
                  go_ret
                  exact ⟨by first | rfl | (simp [errW_none, errW_some] <;> rfl) | (simp [*, errW_none, errW_some] <;> rfl), by repeat (first | (with_reducible first | exact HB.out | apply below_alloc | apply pw_below_drewN | apply below_drew1 | refine below_set ?_ GE156.out) | exact HB.out)⟩
                · rw [if_neg c24] at H
                  have c24b0 : ((a0_6.size : Int) == a0_3) = false := beq_eq_false_iff_ne.mpr c24
                  have c24b1 : ((a0_6.size : Int) != a0_3) = true := bne_iff_ne.mpr c24
                  obtain rfl := Option.some.inj H
                  have hcz26_0 : wc.cell? ⟨gb156, 0, none⟩ = some (.int .i64 a0_0) := (blk_cell BK156.out 0).trans rfl
                  have hcz26_1 : wc.cell? ⟨gb156, 1, none⟩ = some (.int .i64 a0_1) := (blk_cell BK156.out 1).trans rfl
                  have hcz26_2 : wc.cell? ⟨gb156, 2, none⟩ = some (.int .i64 a0_2) := (blk_cell BK156.out 2).trans rfl
                  have hcz26_3 : wc.cell? ⟨gb156, 3, none⟩ = some (.int .i64 a0_3) := (blk_cell BK156.out 3).trans rfl
                  have hcz26_4 : wc.cell? ⟨gb156, 4, none⟩ = some (.int .i64 a0_4) := (blk_cell BK156.out 4).trans rfl
                  have hcz26_5 : wc.cell? ⟨gb156, 5, none⟩ = some (.slice A0_5 l0_5.length c0_5) := (blk_cell BK156.out 5).trans rfl
                  have hcz26_6 : wc.cell? ⟨gb156, 6, none⟩ = some (.string a0_6) := (blk_cell BK156.out 6).trans rfl
                  have hfz26_0 := blk_frozen BK156.out 0
                  have hfz26_1 := blk_frozen BK156.out 1
                  have hfz26_2 := blk_frozen BK156.out 2
                  have hfz26_3 := blk_frozen BK156.out 3
                  have hfz26_4 := blk_frozen BK156.out 4
                  have hfz26_5 := blk_frozen BK156.out 5
                  have hfz26_6 := blk_frozen BK156.out 6
                  go_wp2_with (first | (go_at_call 37; (with_reducible refine (bucketlineref01_Valid.calls kj1 a0_2 _ _ l0_5 true _ ?side1 ?side2 A19.out).mono ?_); (case side1 => repeat (first | exact (Kd.C_below HR0_5.out HB.out) | (with_reducible refine Kd.C_alloc ?_ _) | (with_reducible refine Kd.C_drewN ?_ _) | (with_reducible refine Kd.C_drew ?_))); (case side2 => exact HC0_5.out); rintro e w' ⟨rfl, ⟨nd, rfl⟩⟩) | (go_at_call 38; (with_reducible refine (bucketlineref01_Count.calls kj1 _ _ l0_5 t159 _ ?side1 ?side2 A21.out).mono ?_); (case side1 => repeat (first | exact (Kd.C_below HR0_5.out (by repeat (first | (with_reducible first | exact HB.out | apply below_alloc | apply pw_below_drewN | apply below_drew1 | refine below_set ?_ GE156.out) | exact HB.out))) | (with_reducible refine Kd.C_alloc ?_ _) | (with_reducible refine Kd.C_drewN ?_ _) | (with_reducible refine Kd.C_drew ?_))); (case side2 => exact HC0_5.out); rintro e w' ⟨rfl, ⟨nd, rfl⟩⟩))
                  go_ret
                  exact ⟨by first | rfl | (simp [errW_none, errW_some] <;> rfl) | (simp [*, errW_none, errW_some] <;> rfl), by repeat (first | (with_reducible first | exact HB.out | apply below_alloc | apply pw_below_drewN | apply below_drew1 | refine below_set ?_ GE156.out) | exact HB.out)⟩
            · replace c20 := Bool.eq_false_iff.mpr c20
              subst c20
              have H1 : (some 1) = some r := by rw [if_neg (show ¬ (false = true) by decide)] at H; exact H
              clear H
              have H := H1
              clear H1
              obtain rfl := Option.some.inj H
              have hcz27_0 : wc.cell? ⟨gb156, 0, none⟩ = some (.int .i64 a0_0) := (blk_cell BK156.out 0).trans rfl
              have hcz27_1 : wc.cell? ⟨gb156, 1, none⟩ = some (.int .i64 a0_1) := (blk_cell BK156.out 1).trans rfl
              have hcz27_2 : wc.cell? ⟨gb156, 2, none⟩ = some (.int .i64 a0_2) := (blk_cell BK156.out 2).trans rfl
              have hcz27_3 : wc.cell? ⟨gb156, 3, none⟩ = some (.int .i64 a0_3) := (blk_cell BK156.out 3).trans rfl
              have hcz27_4 : wc.cell? ⟨gb156, 4, none⟩ = some (.int .i64 a0_4) := (blk_cell BK156.out 4).trans rfl
              have hcz27_5 : wc.cell? ⟨gb156, 5, none⟩ = some (.slice A0_5 l0_5.length c0_5) := (blk_cell BK156.out 5).trans rfl
              have hcz27_6 : wc.cell? ⟨gb156, 6, none⟩ = some (.string a0_6) := (blk_cell BK156.out 6).trans rfl
              have hfz27_0 := blk_frozen BK156.out 0
              have hfz27_1 := blk_frozen BK156.out 1
              have hfz27_2 := blk_frozen BK156.out 2
              have hfz27_3 := blk_frozen BK156.out 3
              have hfz27_4 := blk_frozen BK156.out 4
              have hfz27_5 := blk_frozen BK156.out 5
              have hfz27_6 := blk_frozen BK156.out 6
              go_wp2_with (first | (go_at_call 37; (with_reducible refine (bucketlineref01_Valid.calls kj1 a0_2 _ _ l0_5 false _ ?side1 ?side2 A19.out).mono ?_); (case side1 => repeat (first | exact (Kd.C_below HR0_5.out HB.out) | (with_reducible refine Kd.C_alloc ?_ _) | (with_reducible refine Kd.C_drewN ?_ _) | (with_reducible refine Kd.C_drew ?_))); (case side2 => exact HC0_5.out); rintro e w' ⟨rfl, ⟨nd, rfl⟩⟩))
              go_ret
              exact ⟨by first | rfl | (simp [errW_none, errW_some] <;> rfl) | (simp [*, errW_none, errW_some] <;> rfl), by repeat (first | (with_reducible first | exact HB.out | apply below_alloc | apply pw_below_drewN | apply below_drew1 | refine below_set ?_ GE156.out) | exact HB.out)⟩
      · replace c14 := Bool.eq_false_iff.mpr c14
        subst c14
        have H1 : (some 1) = some r := by rw [if_neg (show ¬ (false = true) by decide)] at H; exact H
        clear H
        have H := H1
        clear H1
        obtain rfl := Option.some.inj H
        go_wp2
        go_ret
        exact ⟨by first | rfl | (simp [errW_none, errW_some] <;> rfl) | (simp [*, errW_none, errW_some] <;> rfl), by repeat (first | (with_reducible first | exact HB.out | apply below_alloc | apply pw_below_drewN | apply below_drew1 | refine below_set ?_ GE156.out) | exact HB.out)⟩
/-! ### bucketlineref06_width: function 66 -/
def bucketlineref06_width.f (a0 : Int) : Option (Bool) := if a0 = 1 then (some true) else (if a0 = 2 then (some true) else (some (a0 == 4)))
set_option maxHeartbeats 8000000 in
set_option maxRecDepth 100000 in
theorem bucketlineref06_width.calls (a0 : Int) (r : Bool) (w : World) (h : bucketlineref06_width.f a0 = some r) :
    Calls Tryd.prog 66 #[.int .i64 a0] w fun e w' => e = .returned (.bool r) ∧ Drawn0 w w' := by
  have H : (if a0 = 1 then (some true) else (if a0 = 2 then (some true) else (some (a0 == 4)))) = some r := h
  clear h
  by_cases c2 : a0 = 1
  · rw [if_pos c2] at H
    have c2b0 : (a0 == 1) = true := beq_iff_eq.mpr c2
    have c2b1 : (a0 != 1) = false := bne_eq_false_iff_eq.mpr c2
    clear c2
    obtain rfl := Option.some.inj H
    go_enter Tryd.func66, Tryd.ntmps66
    go_wp2
    go_ret
    exact ⟨by first | rfl | (simp; done) | (simp [*]; done), by repeat (first | exact Drawn0.refl _ | apply Drawn0.step)⟩
  · rw [if_neg c2] at H
    have c2b0 : (a0 == 1) = false := beq_eq_false_iff_ne.mpr c2
    have c2b1 : (a0 != 1) = true := bne_iff_ne.mpr c2
    by_cases c3 : a0 = 2
    · rw [if_pos c3] at H
      have c3b0 : (a0 == 2) = true := beq_iff_eq.mpr c3
      have c3b1 : (a0 != 2) = false := bne_eq_false_iff_eq.mpr c3
      clear c3
      obtain rfl := Option.some.inj H
      go_enter Tryd.func66, Tryd.ntmps66
      go_wp2
      go_ret
      exact ⟨by first | rfl | (simp; done) | (simp [*]; done), by repeat (first | exact Drawn0.refl _ | apply Drawn0.step)⟩
    · rw [if_neg c3] at H
      have c3b0 : (a0 == 2) = false := beq_eq_false_iff_ne.mpr c3
      have c3b1 : (a0 != 2) = true := bne_iff_ne.mpr c3
      obtain rfl := Option.some.inj H
      go_enter Tryd.func66, Tryd.ntmps66
      go_wp2
      go_ret
      exact ⟨by first | rfl | (simp; done) | (simp [*]; done), by repeat (first | exact Drawn0.refl _ | apply Drawn0.step)⟩
/-! ### bucketlineref06_Put: function 53 -/
end Go.Proofs.YtbcphdbcdjdfpaaDoor.P
