/- The law RecodeDegrees: for every input the call returns true, and each argument reads behind the call as before it (the table math/bits.deBruijn64tab being as the program's text lays it). No further condition. -/
import Derived.Test.YtlpcphndgjibpaaDoorRows
import Derived.Test.YtlpcphndgjibpaaDoorZGKC
import Derived.Test.YtlpcphndgjibpaaDoorZGPureRecodeDegrees
import Derived.Test.YtlpcphndgjibpaaDoorZGOp
import Derived.WalkKit
import Derived.ProofKit
import Derived.OpenShut
import Derived.ShutString
import Derived.ChangeOld
import Derived.Below
import Derived.SizedLaws
import Derived.Test.YtlpcphndgjibpaaDoorZGD
import Derived.Test.YtlpcphndgjibpaaDoorCards
import Derived.Test.YtlpcphndgjibpaaDoorTie
import Derived.SevenTiedAt
namespace Go.Proofs.YtlpcphndgjibpaaDoor.recodeDegrees
open Go.ChangeShapes Go.WideShapes Go.ChangeAt Go.RowKit
open Go.ChangeMaps (open_string shut_string)
set_option linter.unusedVariables false
set_option maxRecDepth 100000 in
set_option maxHeartbeats 1000000 in
theorem lifted (os : Os) (started : os.Started) (H : Type) (enc : TypeId × Value → H) :
    ReturnsInHanded {} Tryd.checked os 4 .any (fun w args => (Rows.recodeDegreesSpec.pre enc Tryd.prog Tryd.f4 [] false w args ∧ laidMetH Tryd.prog Door.laid1 w) ∧ sizedMet enc Tryd.prog Tryd.f4 (OpenSpec.ofChange Rows.recodeDegreesSpec) false w args)
      (Rows.recodeDegreesSpec.post enc Tryd.prog Tryd.f4 false true false false) := by
  refine returnsInHanded_of_change_and (C := Tryd.checked) (X := fun w _ => laidMetH Tryd.prog Door.laid1 w) (fun _ _ _ hh h => h.of_heap hh) Door.own started (by kernel_rfl) Tryd.func4
    (ChangeSpec.witness_shaped (enc := enc) (C := Tryd.checked) (os := os) (X := fun w _ => laidMetH Tryd.prog Door.laid1 w) false (World.doorLaid Tryd.prog 400 os) #[.slice none 0 0, .slice none 0 0] 8 rfl (World.shaped_of_RefB (by kernel_rfl) (by kernel_rfl)) (by kernel_rfl) (by kernel_rfl) (by kernel_rfl) (Door.door_met os _)) ?_
  intro W base args ds gs before hval0 hW hcnd hsz0 hL _
  have hT := Door.tab_ok hL
  clear hL
  have hsz : (DataW.weightsEach Tryd.prog (Tryd.f4.params.toList ++ Rows.recodeDegreesSpec.plain.varTypes Tryd.prog) (ds ++ gs)).all (· ≤ reachBytes) = true := hsz0
  have hval : ∀ (j : Nat) t v, Tryd.f4.params[j]? = some t → args[j]? = some v → Value.okWide Tryd.prog W .any base t v := hval0
  have hW' := hW
  obtain ⟨p, q, hA0, hV, rfl, hfz, hnd⟩ := hW
  have hA : DataW.TrodAll enc Tryd.prog W 0 (fun _ => true) true Tryd.f4.params.toList args.toList ds p := hA0
  rw [Tryd.params4] at hA hval hsz
  obtain ⟨v0, vs0, d0, ds0, p0, q0, hargs, rfl, rfl, h0, r0⟩ := trodAll_cons hA
  obtain ⟨v1, vs1, d1, ds1, p1, q1, rfl, rfl, rfl, h1, r1⟩ := trodAll_cons r0
  obtain ⟨rfl, rfl, rfl⟩ := trodAll_nil r1
  obtain rfl : args = #[v0, v1] := by cases args; simp_all
  obtain ⟨rfl, rfl⟩ := trodVars_none hV
  have k0 := h0
  have lt0 : ∀ x ∈ p0, x.block < W.heap.size := by obtain ⟨m, hm⟩ := k0; exact DataW.trod_lt m _ _ _ hm
  have wt0 := Op.weights_of hsz (j := 0) (t := 22) (d := d0) rfl rfl
  obtain ⟨fu0, ff0⟩ := h0
  obtain ⟨x0, kk0, gg0⟩ := (Op.Opens.slice Tryd.underlying22 (by kernel_rfl) (by kernel_rfl) (Op.Opens.iso (Op.Opens.struct Tryd.underlying36 (by kernel_rfl) (Op.OpensF.cons (Op.Opens.slice Tryd.underlying34 (by kernel_rfl) (by kernel_rfl) (Op.Opens.int Tryd.underlying48)) (by rfl) (by kernel_rfl) (Op.OpensF.one (Op.Opens.string Tryd.underlying9) (by rfl) (by kernel_rfl)))) (fun x : P.S36 => (x.f0, x.f1)) (fun y => (⟨y.1, y.2⟩ : P.S36)) (fun _ => rfl))) fu0 _ _ _ ff0 wt0
  obtain ⟨a0, len0, cap0, rfl⟩ := okWide_slice Tryd.underlying22 (hval 0 22 v0 rfl rfl)
  obtain ⟨A0, c0, e0, l0, rr0⟩ := kk0
  simp only [Value.cells, List.cons.injEq, Value.slice.injEq, and_true] at e0
  obtain ⟨rfl, rfl, rfl⟩ := e0
  have k1 := h1
  have lt1 : ∀ x ∈ p1, x.block < W.heap.size := by obtain ⟨m, hm⟩ := k1; exact DataW.trod_lt m _ _ _ hm
  have wt1 := Op.weights_of hsz (j := 1) (t := 27) (d := d1) rfl rfl
  obtain ⟨fu1, ff1⟩ := h1
  obtain ⟨x1, kk1, gg1⟩ := (Op.Opens.slice Tryd.underlying27 (by kernel_rfl) (by kernel_rfl) (Op.Opens.int Tryd.underlying3)) fu1 _ _ _ ff1 wt1
  obtain ⟨a1, len1, cap1, rfl⟩ := okWide_slice Tryd.underlying27 (hval 1 27 v1 rfl rfl)
  obtain ⟨A1, c1, e1, l1, rr1⟩ := kk1
  simp only [Value.cells, List.cons.injEq, Value.slice.injEq, and_true] at e1
  obtain ⟨rfl, rfl, rfl⟩ := e1
  obtain ⟨k, hk⟩ := Pure.RecodeDegrees x0 gg0 x1 gg1
  refine (P.bucketlinelaw18_RecodeDegrees.calls k _ _ x0 _ _ x1 true W rr0 l0 rr1 l1 hk hT).mono fun e W' ⟨he, bel0⟩ => ?_
  have bel := bel0
  subst he
  exact ⟨_, rfl, _, _, _, [], _, [], hW', trodAll_mk1 (shut_bool Tryd.underlying4 _), (trodAll_cons_mk (Below.trod Door.laidOut (by kernel_rfl) (of_decide_eq_true (by kernel_rfl)) k0 bel lt0) (trodAll_cons_mk (Below.trod Door.laidOut (by kernel_rfl) (of_decide_eq_true (by kernel_rfl)) k1 bel lt1) trodAll_mk0)), rfl, bel.frame _, fun h => by cases h⟩
theorem over : Rows.RecodeDegreesSaid :=
  OpenClaim.holds_of_wide 4 Tryd.f4 rfl rfl rfl rfl rfl rfl rfl ⟨rfl, rfl, rfl, rfl, rfl⟩ rfl rfl rfl rfl rfl (by kernel_rfl) Tryd.func4 (by kernel_rfl)
    (of_decide_eq_true (by kernel_rfl)) (by unfold Func.isWrapper; first | (rw [if_pos (by decide +kernel)]; kernel_rfl) | (rw [if_neg (by decide +kernel)]; exact ⟨rfl, rfl⟩))
    (fun os started H enc _ => lifted os started H enc)
end Go.Proofs.YtlpcphndgjibpaaDoor.recodeDegrees
namespace Go.Proofs.YtlpcphndgjibpaaDoor
/-- The tied card. -/
theorem recodeDegrees_holds : Rows.RecodeDegreesCardSaid :=
  Claim7.holds_tied_plain_at .later [] [.data] true (true, "98e521569ee5535b23ca614a9d80b92afe614a72c0c6b1c9ca3f10ef51f63091") false
    recodeDegrees.over (fun _ h => by cases h) (by kernel_rfl) (fun _ h => by cases h) recodeDegrees_row_tie rfl ⟨rfl, rfl⟩ (by kernel_rfl) rfl
    (fun f fn hf hfn => by
      obtain rfl : f = 4 := Option.some.inj ((show Tryd.prog.funcNamed "bucketline/bucketlinelaw18.RecodeDegrees" = some 4 by kernel_rfl).symm.trans hf) |>.symm
      obtain rfl : fn = Tryd.f4 := (Option.some.inj (Tryd.func4.symm.trans hfn)).symm
      exact ⟨by kernel_rfl, fun j t ht => by
        rw [Tryd.params4] at ht
        have hm : t ∈ [22, 27] := by simpa using Array.mem_of_getElem? ht
        have hall : ([22, 27].all fun u => !Tryd.prog.wantsStandIn u) = true := by kernel_rfl
        exact (show Tryd.prog.wantsStandIn t = false by simpa using List.all_eq_true.1 hall t hm)⟩)
    (by kernel_rfl)
#print axioms recodeDegrees_holds
end Go.Proofs.YtlpcphndgjibpaaDoor
