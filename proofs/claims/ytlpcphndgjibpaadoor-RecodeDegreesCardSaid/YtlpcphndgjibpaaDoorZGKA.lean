/- The law's own example, walked. No condition. -/
import Derived.Test.YtlpcphndgjibpaaDoorZGK3
namespace Go.Proofs.YtlpcphndgjibpaaDoor.Rx
open Go Go.Proofs Go.Proofs.YtlpcphndgjibpaaDoor.P Go.RowKit Go.Proofs.YtlpcphndgjibpaaDoorW.PrintWords Go.Proofs.YtlpcphndgjibpaaDoorW.PrintLast Go.Proofs.YtlpcphndgjibpaaDoorW.PrintMore
set_option linter.unusedVariables false
set_option linter.unusedSimpArgs false
set_option maxRecDepth 100000
def pk1 : S38 := ⟨0, 0, 1, 1, 2, ⟨[1], ⟨#[97]⟩⟩⟩
def rw3 : List S36 := [⟨[7], ⟨#[]⟩⟩, ⟨[3], ⟨#[]⟩⟩, ⟨[1], ⟨#[]⟩⟩]
theorem mix1 : recode_Mix.f 50 [pk1] [0] = some (0, 0, 1, 1, 3, [1], ⟨#[97]⟩, true) := by kernel_rfl
theorem mix2 : recode_Mix.f 50 [pk1] [0, 0] = some (0, 0, 0, 0, 0, [], ⟨#[]⟩, false) := by kernel_rfl
theorem choose1 : recode_Choose.f 50 rw3 0 1 = some [0, 1] := by decide +kernel
theorem ints1 : bucketlineref01_Ints.f 50 [0, 1] [0, 1] = some true := by decide +kernel
theorem degree1 : recode_Degree.f 50 rw3 [0, 1] = some 1 := by decide +kernel
theorem lit1 {θ : Pr} (hθ : Θ = θ) (k : IntKind) (a : Int) : DLe (.sl 1 1 (litF (.sc (.slice none 0 0)) [[.sc (.int k a)]])) (eI θ k [a]) := by
  subst hθ
  refine ⟨rfl, rfl, fun i hi j hj => ?_⟩
  obtain rfl : i = 0 := by omega
  obtain rfl : j = 0 := by omega
  rfl
theorem lit2 {θ : Pr} (hθ : Θ = θ) (k : IntKind) (a b : Int) : DLe (.sl 2 1 (litF (.sc (.slice none 0 0)) [[.sc (.int k a)], [.sc (.int k b)]])) (eI θ k [a, b]) := by
  subst hθ
  refine ⟨rfl, rfl, fun i hi j hj => ?_⟩
  obtain rfl : j = 0 := by omega
  rcases lt_two hi with rfl | rfl <;> rfl
theorem rows1 {θ : Pr} (hθ : Θ = θ) (i : Nat) (hi : i < 3) (j : Nat) (hj : j < 2) : DLe (litF (.sc (.slice none 0 0)) [[.sl 1 1 (litF (.sc (.slice none 0 0)) [[.sc (.int .u64 7)]]), .sc (.string ⟨#[]⟩)], [.sl 1 1 (litF (.sc (.slice none 0 0)) [[.sc (.int .u64 3)]]), .sc (.string ⟨#[]⟩)], [.sl 1 1 (litF (.sc (.slice none 0 0)) [[.sc (.int .u64 1)]]), .sc (.string ⟨#[]⟩)]] i j) (c36 θ (θ.get rw3 i z36) j) := by
  have e : ∀ q, θ.get rw3 q z36 = rw3.getD q z36 := by subst hθ; intro q; rfl
  rw [e]
  obtain rfl | rfl | rfl : i = 0 ∨ i = 1 ∨ i = 2 := by omega
  all_goals rcases lt_two hj with rfl | rfl
  all_goals first
    | exact DLe.refl _
    | exact lit1 hθ .u64 _
theorem ac_bucketlinelaw18_awake {r : Bool} (h : bucketlinelaw18_awake.f = some r) : AC Tryd.prog N0 G0 13 [] [] [] (.c (.d (.sc (.bool r)))) := by
  obtain rfl := Option.some.inj h
  refine ac_mk Tryd.func13 rfl (by decide) rfl ?_
  generalize hθ : Θ = θ
  cbv
  have hac := ac_recode_Mix mix1
  rw [hθ] at hac
  refine call_rule' hθ hac rfl rfl ?_ rfl ?_
  · refine dts_cons (dt_slD (by subst hθ; rfl) fun i hi j hj => ?_) (dts_cons (lit1 hθ .i64 0) dts_nil)
    obtain rfl : i = 0 := by omega
    have e : θ.get [pk1] 0 z38 = pk1 := by subst hθ; rfl
    show DLe _ (c38 θ (θ.get [pk1] 0 z38) j)
    rw [e]
    rcases lt_seven hj with rfl | rfl | rfl | rfl | rfl | rfl | rfl
    all_goals first
      | exact DLe.refl _
      | exact lit1 hθ .u64 1
  clear hac
  cbv
  have hac := ac_recode_Mix mix2
  rw [hθ] at hac
  refine call_rule' hθ hac rfl rfl ?_ rfl ?_
  · refine dts_cons (dt_slD (by subst hθ; rfl) fun i hi j hj => ?_) (dts_cons (lit2 hθ .i64 0 0) dts_nil)
    obtain rfl : i = 0 := by omega
    have e : θ.get [pk1] 0 z38 = pk1 := by subst hθ; rfl
    show DLe _ (c38 θ (θ.get [pk1] 0 z38) j)
    rw [e]
    rcases lt_seven hj with rfl | rfl | rfl | rfl | rfl | rfl | rfl
    all_goals first
      | exact DLe.refl _
      | exact lit1 hθ .u64 1
  clear hac
  cbv
  have hac := ac_recode_Choose choose1
  rw [hθ] at hac
  refine call_rule' hθ hac rfl rfl ?_ rfl ?_
  · refine dts_cons (dt_slD (by subst hθ; rfl) fun i hi j hj => ?_) (dts_cons dl_rfl (dts_cons dl_rfl dts_nil))
    exact rows1 hθ i hi j hj
  clear hac
  cbv
  have hac := ac_bucketlineref01_Ints ints1
  rw [hθ] at hac
  refine call_rule' hθ hac rfl rfl ?_ rfl ?_
  · exact dts_cons dl_rfl (dts_cons (lit2 hθ .i64 0 1) dts_nil)
  clear hac
  cbv
  have hac := ac_recode_Degree degree1
  rw [hθ] at hac
  refine call_rule' hθ hac rfl rfl ?_ rfl ?_
  · refine dts_cons (dt_slD (by subst hθ; rfl) fun i hi j hj => ?_) (dts_cons (lit2 hθ .i64 0 1) dts_nil)
    exact rows1 hθ i hi j hj
  clear hac
  cbv
  repeat' first
    | ((with_reducible refine pre_and ?_ ?_); rotate_left; (try cbv))
    | (split <;> (rename_i heq; simp only [← hθ, Θ, stdP, std, cmpI] at heq) <;> first | (exfalso; revert heq; decide) | (exfalso; simp [scmp] at heq; done) | (try cbv))
    | (simp only [← hθ, Θ, stdP, std]; refine exp_of0 (tle_bool ?_); first | rfl | decide)
end Go.Proofs.YtlpcphndgjibpaaDoor.Rx
