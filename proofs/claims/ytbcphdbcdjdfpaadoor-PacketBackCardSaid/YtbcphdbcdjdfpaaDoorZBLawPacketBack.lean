/- The law PacketBack: for every input the call returns true, and each argument reads behind the call as before it (the table math/bits.deBruijn64tab being as the program's text lays it). No further condition. -/
import Derived.Test.YtbcphdbcdjdfpaaDoorRows
import Derived.Test.YtbcphdbcdjdfpaaDoorZBP22
import Derived.Test.YtbcphdbcdjdfpaaDoorZBPurePacketBack
import Derived.Test.YtbcphdbcdjdfpaaDoorZBOp
import Derived.WalkKit
import Derived.ProofKit
import Derived.OpenShut
import Derived.ShutString
import Derived.ChangeOld
import Derived.Below
import Derived.SizedLaws
import Derived.Test.YtbcphdbcdjdfpaaDoorZBD
import Derived.Test.YtbcphdbcdjdfpaaDoorCards
import Derived.Test.YtbcphdbcdjdfpaaDoorTie
import Derived.SevenTiedAt
namespace Go.Proofs.YtbcphdbcdjdfpaaDoor.packetBack
open Go.ChangeShapes Go.WideShapes Go.ChangeAt Go.RowKit
open Go.ChangeMaps (open_string shut_string)
set_option linter.unusedVariables false
set_option maxRecDepth 100000 in
set_option maxHeartbeats 1000000 in
theorem lifted (os : Os) (started : os.Started) (H : Type) (enc : TypeId × Value → H) :
    ReturnsInHanded {} Tryd.checked os 11 .any (fun w args => (Rows.packetBackSpec.pre enc Tryd.prog Tryd.f11 [] false w args ∧ laidMetH Tryd.prog Door.laid1 w) ∧ sizedMet enc Tryd.prog Tryd.f11 (OpenSpec.ofChange Rows.packetBackSpec) false w args)
      (Rows.packetBackSpec.post enc Tryd.prog Tryd.f11 false true false false) := by
  refine returnsInHanded_of_change_and (C := Tryd.checked) (X := fun w _ => laidMetH Tryd.prog Door.laid1 w) (fun _ _ _ hh h => h.of_heap hh) Door.own started (by kernel_rfl) Tryd.func11
    (ChangeSpec.witness_shaped (enc := enc) (C := Tryd.checked) (os := os) (X := fun w _ => laidMetH Tryd.prog Door.laid1 w) false (World.doorLaid Tryd.prog 400 os) #[.agg #[.int .i64 0, .int .i64 0, .int .i64 0, .int .i64 0, .int .i64 0, .slice none 0 0, .string ByteArray.empty], .string ByteArray.empty] 8 rfl (World.shaped_of_RefB (by kernel_rfl) (by kernel_rfl)) (by kernel_rfl) (by kernel_rfl) (by kernel_rfl) (Door.door_met os _)) ?_
  intro W base args ds gs before hval0 hW hcnd hsz0 hL _
  have hT := Door.tab_ok hL
  clear hL
  have hsz : (DataW.weightsEach Tryd.prog (Tryd.f11.params.toList ++ Rows.packetBackSpec.plain.varTypes Tryd.prog) (ds ++ gs)).all (· ≤ reachBytes) = true := hsz0
  have hval : ∀ (j : Nat) t v, Tryd.f11.params[j]? = some t → args[j]? = some v → Value.okWide Tryd.prog W .any base t v := hval0
  have hW' := hW
  obtain ⟨p, q, hA0, hV, rfl, hfz, hnd⟩ := hW
  have hA : DataW.TrodAll enc Tryd.prog W 0 (fun _ => true) true Tryd.f11.params.toList args.toList ds p := hA0
  rw [Tryd.params11] at hA hval hsz
  obtain ⟨v0, vs0, d0, ds0, p0, q0, hargs, rfl, rfl, h0, r0⟩ := trodAll_cons hA
  obtain ⟨v1, vs1, d1, ds1, p1, q1, rfl, rfl, rfl, h1, r1⟩ := trodAll_cons r0
  obtain ⟨rfl, rfl, rfl⟩ := trodAll_nil r1
  obtain rfl : args = #[v0, v1] := by cases args; simp_all
  obtain ⟨rfl, rfl⟩ := trodVars_none hV
  have k0 := h0
  have lt0 : ∀ x ∈ p0, x.block < W.heap.size := by obtain ⟨m, hm⟩ := k0; exact DataW.trod_lt m _ _ _ hm
  have wt0 := Op.weights_of hsz (j := 0) (t := 26) (d := d0) rfl rfl
  obtain ⟨fu0, ff0⟩ := h0
  obtain ⟨x0, kk0, gg0⟩ := (Op.Opens.iso (Op.Opens.struct Tryd.underlying26 (by kernel_rfl) (Op.OpensF.cons (Op.Opens.int Tryd.underlying3) (by rfl) (by kernel_rfl) (Op.OpensF.cons (Op.Opens.int Tryd.underlying3) (by rfl) (by kernel_rfl) (Op.OpensF.cons (Op.Opens.int Tryd.underlying3) (by rfl) (by kernel_rfl) (Op.OpensF.cons (Op.Opens.int Tryd.underlying3) (by rfl) (by kernel_rfl) (Op.OpensF.cons (Op.Opens.int Tryd.underlying3) (by rfl) (by kernel_rfl) (Op.OpensF.one (Op.Opens.iso (Op.Opens.struct Tryd.underlying24 (by kernel_rfl) (Op.OpensF.cons (Op.Opens.slice Tryd.underlying22 (by kernel_rfl) (by kernel_rfl) (Op.Opens.int Tryd.underlying60)) (by rfl) (by kernel_rfl) (Op.OpensF.one (Op.Opens.string Tryd.underlying9) (by rfl) (by kernel_rfl)))) (fun x : P.S24 => (x.f0, x.f1)) (fun y => (⟨y.1, y.2⟩ : P.S24)) (fun _ => rfl)) (by rfl) (by kernel_rfl)))))))) (fun x : P.S26 => (x.f0, x.f1, x.f2, x.f3, x.f4, x.f5)) (fun y => (⟨y.1, y.2.1, y.2.2.1, y.2.2.2.1, y.2.2.2.2.1, y.2.2.2.2.2⟩ : P.S26)) (fun _ => rfl)) fu0 _ _ _ ff0 wt0
  obtain ⟨cs0, rfl, sz0⟩ := okWide_struct Tryd.underlying26 (hval 0 26 v0 rfl rfl)
  obtain ⟨A0_5, c0_5, e0, l0_5, rr0_5⟩ := P.k26_open kk0
  obtain rfl : cs0 = #[.int .i64 x0.f0, .int .i64 x0.f1, .int .i64 x0.f2, .int .i64 x0.f3, .int .i64 x0.f4, .slice A0_5 x0.f5.f0.length c0_5, .string x0.f5.f1] := by have z := congrArg List.toArray e0; simpa [Value.cells] using z
  obtain ⟨a1, rfl, rfl, rfl, y1⟩ := open_string Tryd.underlying9 (hval 1 9 v1 rfl rfl) h1
  have w1 : a1.size ≤ 140737488351232 := by
    have z := sized_string hsz (j := 1) (t := 9) rfl rfl
    rw [Array.length_toList] at z
    exact z
  obtain ⟨k, hk⟩ := Pure.PacketBack x0 gg0 a1 w1
  refine (P.bucketlinelaw07_PacketBack.calls k x0.f0 x0.f1 x0.f2 x0.f3 x0.f4 _ _ x0.f5.f0 x0.f5.f1 a1 true W rr0_5 l0_5 hk hT).mono fun e W' ⟨he, bel0⟩ => ?_
  have bel := bel0
  subst he
  exact ⟨_, rfl, _, _, _, [], _, [], hW', trodAll_mk1 (shut_bool Tryd.underlying4 _), (trodAll_cons_mk (Below.trod Door.laidOut (by kernel_rfl) (of_decide_eq_true (by kernel_rfl)) k0 bel lt0) (trodAll_cons_mk (shut_string Tryd.underlying9 y1) trodAll_mk0)), rfl, bel.frame _, fun h => by cases h⟩
theorem over : Rows.PacketBackSaid :=
  OpenClaim.holds_of_wide 11 Tryd.f11 rfl rfl rfl rfl rfl rfl rfl ⟨rfl, rfl, rfl, rfl, rfl⟩ rfl rfl rfl rfl rfl (by kernel_rfl) Tryd.func11 (by kernel_rfl)
    (of_decide_eq_true (by kernel_rfl)) (by unfold Func.isWrapper; first | (rw [if_pos (by decide +kernel)]; kernel_rfl) | (rw [if_neg (by decide +kernel)]; exact ⟨rfl, rfl⟩))
    (fun os started H enc _ => lifted os started H enc)
end Go.Proofs.YtbcphdbcdjdfpaaDoor.packetBack
namespace Go.Proofs.YtbcphdbcdjdfpaaDoor
/-- The tied card. -/
theorem packetBack_holds : Rows.PacketBackCardSaid :=
  Claim7.holds_tied_plain_at .later [] [.data] true (true, "f38ceb1762ba80ab5fc5191774f22d0cfb0104dfe43cd8deb31d8e2a65d52b26") false
    packetBack.over (fun _ h => by cases h) (by kernel_rfl) (fun _ h => by cases h) packetBack_row_tie rfl ⟨rfl, rfl⟩ (by kernel_rfl) rfl
    (fun f fn hf hfn => by
      obtain rfl : f = 11 := Option.some.inj ((show Tryd.prog.funcNamed "bucketline/bucketlinelaw07.PacketBack" = some 11 by kernel_rfl).symm.trans hf) |>.symm
      obtain rfl : fn = Tryd.f11 := (Option.some.inj (Tryd.func11.symm.trans hfn)).symm
      exact ⟨by kernel_rfl, fun j t ht => by
        rw [Tryd.params11] at ht
        have hm : t ∈ [26, 9] := by simpa using Array.mem_of_getElem? ht
        have hall : ([26, 9].all fun u => !Tryd.prog.wantsStandIn u) = true := by kernel_rfl
        exact (show Tryd.prog.wantsStandIn t = false by simpa using List.all_eq_true.1 hall t hm)⟩)
    (by kernel_rfl)
#print axioms packetBack_holds
end Go.Proofs.YtbcphdbcdjdfpaaDoor
