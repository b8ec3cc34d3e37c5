/- The plain statement of PacketShort. -/
import Derived.Test.YtbcphdbcdjdfpaaDoorZSSpb
import Derived.Test.YtbcphdbcdjdfpaaDoorZSP22
namespace Go.Proofs.YtbcphdbcdjdfpaaDoor.Pure
open Go.RowKit Go.Proofs.YtbcphdbcdjdfpaaDoor.P Go.Proofs.YtbcphdbcdjdfpaaDoorW.PrintWords Go.Proofs.YtbcphdbcdjdfpaaDoorW.PrintLast Go.Proofs.YtbcphdbcdjdfpaaDoorW.PrintMore Go.Proofs.YtbcphdbcdjdfpaaDoor.M
open Go.Proofs.YtbcphdbcdjdfpaaDoor.S
set_option linter.unusedVariables false
theorem bt_take (s : ByteArray) (n i : Nat) (h : i < n) : bt (s.extract 0 n) (i : Int) = bt s (i : Int) := by
  rw [bt_rd, bt_rd, bytesOf_extract, List.drop_zero, getD_take, Nat.sub_zero, if_pos h]
theorem bt_app (s t : ByteArray) (i : Nat) (h : i < s.size) : bt (s ++ t) (i : Int) = bt s (i : Int) := by
  rw [bt_rd, bt_rd, bytesOf_append, List.getD_eq_getElem?_getD, List.getElem?_append_left (by rw [← bytesOf_size]; exact h), ← List.getD_eq_getElem?_getD]
/-- A packet's bytes, their size, K and Size read of them. -/
theorem enc_facts {o l k z h : Int} {v : List Int} {d : ByteArray} (p : OkP o l k z h v d) : bt (encB o l k z h v d) 8 = k ∧ bt (encB o l k z h v d) 9 = z ∧ ((encB o l k z h v d).size : Int) = 11 + 8 * sizeZ k + z ∧ 1 ≤ z ∧ z ≤ 64 := by
  have hB := bytesOf_encB o l k z h v d
  have hS := encB_size o l k z h v d
  generalize encB o l k z h v d = s at hB hS
  have hkz := sizesB_of p.kz
  have p6 := p.dz
  have hz := sizeZ_of p.va
  refine ⟨?_, ?_, by rw [hz]; omega, hkz.2.2.1, hkz.2.2.2⟩
  · rw [show (8 : Int) = ((8 : Nat) : Int) from rfl, bt_of hB]; show k % 256 = k; omega
  · rw [show (9 : Int) = ((9 : Nat) : Int) from rfl, bt_of hB]; show z % 256 = z; omega
theorem dec_cut {o l k z h : Int} {v : List Int} {d : ByteArray} (p : OkP o l k z h v d) (n : Nat) (hn : n < (encB o l k z h v d).size) : dec ((encB o l k z h v d).extract 0 n) = no2 := by
  obtain ⟨e8, e9, es, _, _⟩ := enc_facts p
  have hsz : ((encB o l k z h v d).extract 0 n).size = n := by rw [ByteArray.size_extract]; omega
  by_cases h1 : n < 11
  · exact dec_short (by omega)
  · have b8 : bt ((encB o l k z h v d).extract 0 n) 8 = k := (bt_take (encB o l k z h v d) n 8 (by omega)).trans e8
    have b9 : bt ((encB o l k z h v d).extract 0 n) 9 = z := (bt_take (encB o l k z h v d) n 9 (by omega)).trans e9
    exact dec_size (by omega) (by rw [b8, b9]; exact p.kz) (by rw [b8, b9]; omega)
theorem dec_more {o l k z h : Int} {v : List Int} {d : ByteArray} (p : OkP o l k z h v d) : dec (encB o l k z h v d ++ ⟨#[0]⟩) = no3 := by
  obtain ⟨e8, e9, es, _, _⟩ := enc_facts p
  have hzn := sizeZ_nn k
  have hsz : (encB o l k z h v d ++ (⟨#[0]⟩ : ByteArray)).size = (encB o l k z h v d).size + 1 := by rw [ByteArray.size_append]; rfl
  have b8 : bt (encB o l k z h v d ++ (⟨#[0]⟩ : ByteArray)) 8 = k := (bt_app (encB o l k z h v d) _ 8 (by omega)).trans e8
  have b9 : bt (encB o l k z h v d ++ (⟨#[0]⟩ : ByteArray)) 9 = z := (bt_app (encB o l k z h v d) _ 9 (by omega)).trans e9
  refine dec_bad (by omega) (by rw [b8, b9]; exact p.kz) (by rw [b8, b9]; omega) fun q => ?_
  have := q.dz
  unfold dD at this
  rw [b8, b9, ByteArray.size_extract, hsz] at this
  omega
theorem list_loop (b : ByteArray) (d : Nat) : ∀ (i : Nat) (r : List UInt8), i + d = b.size → ByteArray.toList.loop b i r = r.reverse ++ b.data.toList.drop i := by
  induction d with
  | zero => intro i r h; rw [ByteArray.toList.loop, if_neg (by omega), List.drop_of_length_le (by rw [Array.length_toList]; show b.size ≤ i; omega), List.append_nil]
  | succ d ih =>
    intro i r h
    have hi : i < b.data.toList.length := by rw [Array.length_toList]; show i < b.size; omega
    rw [ByteArray.toList.loop, if_pos (by omega), ih (i + 1) _ (by omega), List.reverse_cons, List.append_assoc, List.drop_eq_getElem_cons hi]
    congr 1
    show ByteArray.get! b i :: _ = _
    congr 1
    show b.data[i]! = _
    rw [getElem!_pos b.data i (by omega)]
    rfl
theorem toList_data (b : ByteArray) : b.toList = b.data.toList := by
  have := list_loop b b.size 0 [] (by omega)
  simpa [ByteArray.toList] using this
theorem short_yes (at_ : Int) : Ev (fun q => bucketlinelaw07_PacketShort.j0 q at_ ⟨#[]⟩ true) true := by
  refine Ev.step (f := fun q => (bucketlinelaw07_awake.f q).bind fun t => some t) (fun q => ?_) awake07'
  simp only [bucketlinelaw07_PacketShort.j0, if_true, toList_data]
theorem PacketShort (p : S26) (g : ((Lit.int .i64 p.f0).wf = true ∧ (Lit.int .i64 p.f1).wf = true ∧ (Lit.int .i64 p.f2).wf = true ∧ (Lit.int .i64 p.f3).wf = true ∧ (Lit.int .i64 p.f4).wf = true ∧ (p.f5.f0.length * 8 ≤ 140737488351232 ∧ ∀ a ∈ p.f5.f0, (Lit.int .u64 a).wf = true) ∧ p.f5.f1.size ≤ 140737488351232)) (c : Int) (hc : (Lit.int .i64 c).wf = true) : ∃ k, bucketlinelaw07_PacketShort.f k p.f0 p.f1 p.f2 p.f3 p.f4 p.f5.f0 p.f5.f1 c = some true := by
  refine Ev.rounds (g := fun k => bucketlinelaw07_PacketShort.f k p.f0 p.f1 p.f2 p.f3 p.f4 p.f5.f0 p.f5.f1 c) ?_
  obtain ⟨_, _, _, _, _, ⟨hl, hv⟩, hd⟩ := g
  have hu := U_of_wf hv
  unfold bucketlinelaw07_PacketShort.f
  simp only [few_f, Option.bind_some]
  by_cases h : p.f5.f0.length ≤ 100 ∧ p.f5.f1.size ≤ 10000
  · simp only [h, and_self, decide_true, if_true]
    refine Ev.bind (Encode _ _ _ _ _ _ hu (by omega)) ?_
    by_cases ok : OkP p.f0 p.f1 p.f2 p.f3 p.f4 p.f5.f0 p.f5.f1
    · simp only [encR_yes ok, if_true]
      have hS := encB_size p.f0 p.f1 p.f2 p.f3 p.f4 p.f5.f0 p.f5.f1
      have hcut := dec_cut ok
      have hmore := dec_more ok
      generalize encB p.f0 p.f1 p.f2 p.f3 p.f4 p.f5.f0 p.f5.f1 = s at hS hcut hmore
      have hne : (s.toList == ([] : List UInt8)) = false := by
        rw [toList_data, Bool.eq_false_iff]; intro t
        rw [beq_iff_eq] at t
        have := congrArg List.length t
        rw [Array.length_toList] at this
        have h2 : s.size = 0 := this
        omega
      rw [hne]
      have w1 : IntKind.u64.wrap (s.size : Int) = (s.size : Int) := wu64 (by omega) (by omega)
      have w2 : 0 ≤ IntKind.u64.wrap c := by rw [IntKind.wrap_u64]; omega
      have w3 : (IntKind.u64.wrap c).tmod (s.size : Int) = IntKind.u64.wrap c % (s.size : Int) := Int.tmod_eq_emod_of_nonneg w2
      have w4 := Int.emod_nonneg (IntKind.u64.wrap c) (b := (s.size : Int)) (by omega)
      have w5 := Int.emod_lt_of_pos (IntKind.u64.wrap c) (b := (s.size : Int)) (by omega)
      have w6 : wrap64 (IntKind.u64.wrap c % (s.size : Int)) = IntKind.u64.wrap c % (s.size : Int) := w64 (by omega) (by omega)
      have hz : ¬ (s.size : Int) = 0 := by omega
      have hle : IntKind.u64.wrap c % (s.size : Int) ≤ (s.size : Int) := by omega
      have hs1 : s.size + 1 ≤ 9223372036854775807 := by omega
      have e1 := hcut (IntKind.u64.wrap c % (s.size : Int)).toNat (by omega)
      have a1 := Decode (s.extract 0 (IntKind.u64.wrap c % (s.size : Int)).toNat)
      have a2 := Decode (s ++ ⟨#[0]⟩)
      rw [e1] at a1
      rw [hmore] at a2
      refine Ev.step (fun q => by simp only [bucketlinelaw07_PacketShort.j0, Bool.false_eq_true, if_false, w1, w3, w6, hz, w4, hle, if_true]; rfl) (Ev.bind a1 ?_)
      simp only [hs1, if_true]
      refine Ev.bind a2 ?_
      simp only [no2, no3, if_true]
      exact awake07'
    · simp only [encR_no ok, show ¬ (1 : Int) = 0 by decide, if_false]
      exact short_yes c
  · simp only [h, decide_false, Bool.false_eq_true, if_false]
    exact awake07'
end Go.Proofs.YtbcphdbcdjdfpaaDoor.Pure
