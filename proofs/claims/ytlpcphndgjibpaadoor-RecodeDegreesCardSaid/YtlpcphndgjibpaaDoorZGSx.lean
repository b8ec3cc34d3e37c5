/- What the printed functions of xor and of its reference come to. -/
import Derived.Test.YtlpcphndgjibpaaDoorZGM3
import Derived.Test.YtlpcphndgjibpaaDoorZGSw
import Derived.Test.YtlpcphndgjibpaaDoorZGF
set_option linter.unusedVariables false
set_option linter.unusedSimpArgs false
namespace Go.Proofs.YtlpcphndgjibpaaDoor.M
open Go.RowKit Go.Proofs.YtlpcphndgjibpaaDoorW.PrintWords Go.Proofs.YtlpcphndgjibpaaDoorW.PrintMore
theorem B.toU {l : List Int} (h : B l) : U l := fun x hx => by have := h x hx; omega
theorem B.nil : B [] := fun _ h => by cases h
theorem xor8 {a b : Int} (ha : 0 ≤ a ∧ a < 256) (hb : 0 ≤ b ∧ b < 256) : Go.bits .xor .u8 a b = ((a.toNat ^^^ b.toNat : Nat) : Int) := by
  obtain ⟨x, rfl⟩ := Int.eq_ofNat_of_zero_le ha.1
  obtain ⟨y, rfl⟩ := Int.eq_ofNat_of_zero_le hb.1
  have hx : x ^^^ y < 2 ^ 8 := Nat.xor_lt_two_pow (by omega) (by omega)
  have h1 : (BitVec.ofInt 8 (x : Int)).toNat = x := by
    rw [BitVec.ofInt_natCast, BitVec.toNat_ofNat]; exact Nat.mod_eq_of_lt (by omega)
  have h2 : (BitVec.ofInt 8 (y : Int)).toNat = y := by
    rw [BitVec.ofInt_natCast, BitVec.toNat_ofNat]; exact Nat.mod_eq_of_lt (by omega)
  show IntKind.u8.wrap ((BitVec.ofInt 8 (x : Int) ^^^ BitVec.ofInt 8 (y : Int)).toNat : Int) = _
  rw [BitVec.toNat_xor, h1, h2]
  simp only [IntKind.wrap, IntKind.signed, IntKind.bits, Int.toNat_natCast]
  simp
  omega
theorem B_xorL : ∀ {a b : List Int}, B a → B b → B (xorL a b)
  | [], b, _, hb => by simpa [xorL] using hb
  | x :: a, [], ha, _ => by simpa [xorL] using ha
  | x :: a, y :: b, ha, hb => fun z hz => by
    rw [xorL] at hz
    rcases List.mem_cons.1 hz with rfl | h
    · have h1 := ha x (by simp)
      have h2 := hb y (by simp)
      have : x.toNat ^^^ y.toNat < 2 ^ 8 := Nat.xor_lt_two_pow (by omega) (by omega)
      omega
    · exact B_xorL (fun z hz => ha z (by simp [hz])) (fun z hz => hb z (by simp [hz])) z h
theorem B.take {l : List Int} (h : B l) (n : Nat) : B (l.take n) := fun x hx => h x (List.mem_of_mem_take hx)
theorem B.append {a b : List Int} (ha : B a) (hb : B b) : B (a ++ b) := fun x hx => by
  rcases List.mem_append.1 hx with h | h
  · exact ha x h
  · exact hb x h
theorem B.zeros (n : Nat) : B (List.replicate n 0) := fun x hx => by
  obtain rfl := List.eq_of_mem_replicate hx; omega
theorem B.getD {l : List Int} (h : B l) (i : Nat) : 0 ≤ l.getD i 0 ∧ l.getD i 0 < 256 := by
  rw [List.getD_eq_getElem?_getD]
  cases e : l[i]? with
  | none => simp
  | some x => exact h x (List.mem_of_getElem? e)
end Go.Proofs.YtlpcphndgjibpaaDoor.M
namespace Go.Proofs.YtlpcphndgjibpaaDoor.S
open Go.RowKit Go.Proofs.YtlpcphndgjibpaaDoor.P Go.Proofs.YtlpcphndgjibpaaDoorW.PrintWords Go.Proofs.YtlpcphndgjibpaaDoorW.PrintLast Go.Proofs.YtlpcphndgjibpaaDoorW.PrintMore Go.Proofs.YtlpcphndgjibpaaDoor.M
theorem into_loop {l : List Int} {s : ByteArray} (hl : B l) (h : s.size ≤ l.length) (hb : l.length ≤ 17592186044416) (d : Nat) : ∀ i : Nat, i + d = s.size → Ev (fun q => xor_into.l0 q (xorL ((bytesOf s).take i) l) s (s.size : Int) (i : Int)) (xorL (bytesOf s) l) := by
  have hs := bytesOf_length s
  have hB := bytesOf_B s
  induction d with
  | zero =>
    intro i hi
    refine Ev.step (f := fun _ => some (xorL (bytesOf s) l)) (fun q => ?_) (Ev.now _)
    simp only [xor_into.l0]
    rw [if_neg (by omega), List.take_of_length_le (by omega)]
  | succ d ih =>
    intro i hi
    have hlen : (xorL ((bytesOf s).take i) l).length = l.length := by rw [xorL_length, List.length_take]; omega
    refine Ev.step (fun q => ?_) (ih (i + 1) (by omega))
    simp only [xor_into.l0]
    rw [if_pos (by omega), if_pos (by omega), if_pos (by rw [hlen]; omega), if_pos (by omega), rd_nat, bt_rd, xor8 ((B_xorL (hB.take i) hl).getD i) (hB.getD i), Int.toNat_natCast, xor_round hl.toU hB.toU (by omega) (by omega), w64 (by omega) (by omega), show (i : Int) + 1 = ((i + 1 : Nat) : Int) by omega]
theorem into {l : List Int} {s : ByteArray} (hl : B l) (h1 : l.length ≤ 17592186044416) (h2 : s.size ≤ 17592186044416) : Ev (fun q => xor_into.f q l s) (xorL l (bytesOf s)) := by
  have hs := bytesOf_length s
  have hB := bytesOf_B s
  have hz : 0 ≤ (s.size : Int) := by omega
  have hz2 : s.size ≤ 281474976710656 := by omega
  have key : ∀ x : List Int, B x → s.size ≤ x.length → x.length ≤ 17592186044416 → Ev (fun q => xor_into.j0 q x s) (xorL (bytesOf s) x) := fun x hx a b => by
    have := into_loop hx a b s.size 0 (by omega)
    rw [List.take_zero] at this
    refine Ev.step (fun q => ?_) this
    simp only [xor_into.j0, xorL]
    rfl
  unfold xor_into.f
  by_cases hc : (s.size : Int) > (l.length : Int)
  · simp only [hc, hz, hz2, if_true, Int.toNat_natCast]
    have := key (l ++ List.replicate (s.size - l.length) 0) (hl.append (B.zeros _)) (by simp; omega) (by simp; omega)
    rw [xorL_append_zeros hl.toU hB.toU (by omega)] at this
    exact this
  · simp only [hc, if_false]
    rw [xorL_comm]
    exact key l hl (by omega) h1
theorem rxor_loop {l : List Int} {s : ByteArray} (hl : B l) (h : s.size ≤ l.length) (hb : l.length ≤ 17592186044416) (d : Nat) : ∀ i : Nat, i + d = s.size → Ev (fun q => bucketlineref02_Xor.l0 q s (xorL ((bytesOf s).take i) l) (i : Int)) (strOfNums (xorL (bytesOf s) l)) := by
  have hs := bytesOf_length s
  have hB := bytesOf_B s
  induction d with
  | zero =>
    intro i hi
    refine Ev.step (f := fun _ => some (strOfNums (xorL (bytesOf s) l))) (fun q => ?_) (Ev.now _)
    simp only [bucketlineref02_Xor.l0]
    rw [if_neg (by omega), List.take_of_length_le (by omega)]
  | succ d ih =>
    intro i hi
    have hlen : (xorL ((bytesOf s).take i) l).length = l.length := by rw [xorL_length, List.length_take]; omega
    refine Ev.step (fun q => ?_) (ih (i + 1) (by omega))
    simp only [bucketlineref02_Xor.l0]
    rw [if_pos (by omega), if_pos (by omega), if_pos (by rw [hlen]; omega), rd_nat, bt_rd, xor8 ((B_xorL (hB.take i) hl).getD i) (hB.getD i), Int.toNat_natCast, xor_round hl.toU hB.toU (by omega) (by omega), w64 (by omega) (by omega), show (i : Int) + 1 = ((i + 1 : Nat) : Int) by omega]
theorem rxor {a b : ByteArray} (h1 : a.size ≤ 17592186044416) (h2 : b.size ≤ 17592186044416) : Ev (fun q => bucketlineref02_Xor.f q a b) (strOfNums (xorL (bytesOf a) (bytesOf b))) := by
  have key : ∀ x y : ByteArray, y.size ≤ x.size → x.size ≤ 17592186044416 → Ev (fun q => bucketlineref02_Xor.j0 q x y) (strOfNums (xorL (bytesOf y) (bytesOf x))) := fun x y h hx => by
    have hs := bytesOf_length x
    have := rxor_loop (bytesOf_B x) (s := y) (by omega) (by omega) y.size 0 (by omega)
    rw [List.take_zero] at this
    refine Ev.step (fun q => ?_) this
    simp only [bucketlineref02_Xor.j0, xorL]
    rw [if_pos (by omega)]
    rfl
  unfold bucketlineref02_Xor.f
  by_cases hc : (a.size : Int) < (b.size : Int)
  · simp only [hc, if_true]; exact key b a (by omega) h2
  · simp only [hc, if_false]; rw [xorL_comm]; exact key a b (by omega) h1
/-! rows -/
abbrev SR := S36
structure GoodR (r : SR) : Prop where
  u : U r.f0
  n : r.f0.length ≤ 100
  d : r.f1.size ≤ 100000
def rowV : List SR → List Int → List Int
  | [], v => v
  | r :: l, v => rowV l (xorL v r.f0)
def rowD : List SR → List Int → List Int
  | [], b => b
  | r :: l, b => rowD l (xorL b (bytesOf r.f1))
theorem drop_getD {α : Type} (z : α) {l : List α} {i : Nat} (h : i < l.length) : l.drop i = l.getD i z :: l.drop (i + 1) := by
  rw [List.drop_eq_getElem_cons h, List.getD_eq_getElem?_getD, List.getElem?_eq_getElem h]; rfl
theorem Row_loop {l : List SR} (hg : ∀ r ∈ l, GoodR r) (hn : l.length ≤ 1000000) (d : Nat) : ∀ (i : Nat) (v b : List Int), i + d = l.length → U v → v.length ≤ 100 → B b → b.length ≤ 100000 → Ev (fun q => xor_Row.l0 q v b l (l.length : Int) (i : Int)) (rowV (l.drop i) v, strOfNums (rowD (l.drop i) b)) := by
  induction d with
  | zero =>
    intro i v b hi hu hv hb hbl
    refine Ev.step (f := fun _ => some (v, strOfNums b)) (fun q => ?_) ?_
    · simp only [xor_Row.l0]; rw [if_neg (by omega)]
    · rw [List.drop_of_length_le (by omega)]; exact Ev.now _
  | succ d ih =>
    intro i v b hi hu hv hb hbl
    have hlt : i < l.length := by omega
    rw [drop_getD z36 hlt]
    have hgr : GoodR (l.getD i z36) := hg _ (by rw [List.getD_eq_getElem?_getD, List.getElem?_eq_getElem hlt]; exact List.getElem_mem hlt)
    have e : rd_T36 l (i : Int) = l.getD i z36 := by unfold rd_T36; rw [Int.toNat_natCast]
    generalize l.getD i z36 = r at hgr e
    have h1 := Xor hu hgr.u (by omega) (by have := hgr.n; omega)
    have h2 := into (s := r.f1) hb (by omega) (by have := hgr.d; omega)
    have h3 := ih (i + 1) (xorL v r.f0) (xorL b (bytesOf r.f1)) (by omega) (U_xorL hu hgr.u) (by rw [xorL_length]; have := hgr.n; omega) (B_xorL hb (bytesOf_B _)) (by rw [xorL_length, bytesOf_length]; have := hgr.d; omega)
    refine Ev.step (fun q => ?_) (Ev.bind (f := fun q t => (xor_into.f q b r.f1).bind fun t2 => xor_Row.l0 q t t2 l (l.length : Int) (((i + 1 : Nat)) : Int)) h1 (Ev.bind h2 h3))
    simp only [xor_Row.l0]
    rw [if_pos (by omega), if_pos (by omega), if_pos (by omega), e, w64 (by omega) (by omega), show (i : Int) + 1 = ((i + 1 : Nat) : Int) by omega]
theorem Row {l : List SR} (hg : ∀ r ∈ l, GoodR r) (hn : l.length ≤ 1000000) : Ev (fun q => xor_Row.f q l) (rowV l [], strOfNums (rowD l [])) :=
  Row_loop hg hn l.length 0 [] [] (by omega) U.nil (by simp) B.nil (by simp)
theorem rRow_loop {l : List SR} (hg : ∀ r ∈ l, GoodR r) (hn : l.length ≤ 1000000) (d : Nat) : ∀ (i : Nat) (v b : List Int), i + d = l.length → U v → v.length ≤ 100 → B b → b.length ≤ 100000 → Ev (fun q => bucketlineref02_Row.l0 q l (i : Int) v (strOfNums b)) (rowV (l.drop i) v, strOfNums (rowD (l.drop i) b)) := by
  induction d with
  | zero =>
    intro i v b hi hu hv hb hbl
    refine Ev.step (f := fun _ => some (v, strOfNums b)) (fun q => ?_) ?_
    · simp only [bucketlineref02_Row.l0]; rw [if_neg (by omega)]
    · rw [List.drop_of_length_le (by omega)]; exact Ev.now _
  | succ d ih =>
    intro i v b hi hu hv hb hbl
    have hlt : i < l.length := by omega
    rw [drop_getD z36 hlt]
    have hgr : GoodR (l.getD i z36) := hg _ (by rw [List.getD_eq_getElem?_getD, List.getElem?_eq_getElem hlt]; exact List.getElem_mem hlt)
    have e : rd_T36 l (i : Int) = l.getD i z36 := by unfold rd_T36; rw [Int.toNat_natCast]
    generalize l.getD i z36 = r at hgr e
    have h1 := ref_Xor hu hgr.u (by omega) (by have := hgr.n; omega)
    have h2 := rxor (a := strOfNums b) (b := r.f1) (by rw [strOfNums_size]; omega) (by have := hgr.d; omega)
    rw [bytesOf_strOfNums hb] at h2
    have h3 := ih (i + 1) (xorL v r.f0) (xorL b (bytesOf r.f1)) (by omega) (U_xorL hu hgr.u) (by rw [xorL_length]; have := hgr.n; omega) (B_xorL hb (bytesOf_B _)) (by rw [xorL_length, bytesOf_length]; have := hgr.d; omega)
    refine Ev.step (fun q => ?_) (Ev.bind (f := fun q t => (bucketlineref02_Xor.f q (strOfNums b) r.f1).bind fun t2 => bucketlineref02_Row.l0 q l (((i + 1 : Nat)) : Int) t t2) h1 (Ev.bind h2 h3))
    simp only [bucketlineref02_Row.l0]
    rw [if_pos (by omega), if_pos (by omega), e, w64 (by omega) (by omega), show (i : Int) + 1 = ((i + 1 : Nat) : Int) by omega]
theorem rRow {l : List SR} (hg : ∀ r ∈ l, GoodR r) (hn : l.length ≤ 1000000) : Ev (fun q => bucketlineref02_Row.f q l) (rowV l [], strOfNums (rowD l [])) :=
  rRow_loop hg hn l.length 0 [] [] (by omega) U.nil (by simp) B.nil (by simp)
end Go.Proofs.YtlpcphndgjibpaaDoor.S
