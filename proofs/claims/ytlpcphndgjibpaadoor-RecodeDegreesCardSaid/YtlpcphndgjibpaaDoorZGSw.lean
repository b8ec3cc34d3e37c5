/- What the printed functions of words and the rest of its reference come to. -/
import Derived.Test.YtlpcphndgjibpaaDoorZGSr
import Derived.Test.YtlpcphndgjibpaaDoorZGF
namespace Go.Proofs.YtlpcphndgjibpaaDoor.S
open Go.RowKit Go.Proofs.YtlpcphndgjibpaaDoor.P Go.Proofs.YtlpcphndgjibpaaDoorW.PrintWords Go.Proofs.YtlpcphndgjibpaaDoorW.PrintLast Go.Proofs.YtlpcphndgjibpaaDoorW.PrintMore Go.Proofs.YtlpcphndgjibpaaDoor.M
theorem mx_len (n m : Nat) : mx (n : Int) (m : Int) = ((max n m : Nat) : Int) := by unfold mx; split <;> omega
theorem own_loop {l : List Int} (hu : U l) {N : Nat} (hN : l.length ≤ N) (hN2 : N ≤ 17592186044416) (d : Nat) : ∀ i : Nat, i + d = l.length → Ev (fun q => words_own.l0 q (xorL (l.take i) (List.replicate N 0)) l (l.length : Int) (i : Int)) (xorL l (List.replicate N 0)) := by
  induction d with
  | zero =>
    intro i hi
    refine Ev.step (f := fun _ => some (xorL l (List.replicate N 0))) (fun q => ?_) (Ev.now _)
    simp only [words_own.l0]
    rw [if_neg (by omega), List.take_of_length_le (by omega)]
  | succ d ih =>
    intro i hi
    have hlen : (xorL (l.take i) (List.replicate N 0)).length = N := by rw [xorL_length]; simp; omega
    have hr := xor_round (U.replicate N) hu (by simpa using hN) (i := i) (by omega)
    have e : ((((xorL (l.take i) (List.replicate N 0)).getD i 0).toNat ^^^ (l.getD i 0).toNat : Nat) : Int) = rd l (i : Int) := by
      have := hu.getD i
      rw [getD_xorL (hu.take i) (U.replicate N), getD_take, if_neg (by omega), rd_nat]
      have h0 : (List.replicate N (0 : Int)).getD i 0 = 0 := by
        rw [List.getD_eq_getElem?_getD, List.getElem?_replicate]; split <;> rfl
      rw [h0]
      simp only [Int.toNat_zero, Nat.xor_self, Int.toNat_natCast, Nat.zero_xor]
      omega
    rw [e] at hr
    have h := ih (i + 1) (by omega)
    rw [← hr] at h
    refine Ev.step (fun q => ?_) h
    simp only [words_own.l0]
    rw [if_pos (by omega), if_pos (by omega), if_pos (by omega), if_pos (by rw [hlen]; omega), w64 (by omega) (by omega), Int.toNat_natCast, show (i : Int) + 1 = ((i + 1 : Nat) : Int) by omega]
theorem xorL_zeros {l : List Int} (hu : U l) {N : Nat} (hN : l.length ≤ N) : xorL l (List.replicate N 0) = l ++ List.replicate (N - l.length) 0 := by
  refine ext_getD ?_ fun i => ?_
  · rw [xorL_length]; simp; omega
  · rw [getD_xorL hu (U.replicate N), getD_append_zeros]
    have h0 : (List.replicate N (0 : Int)).getD i 0 = 0 := by
      rw [List.getD_eq_getElem?_getD, List.getElem?_replicate]; split <;> rfl
    have := hu.getD i
    rw [h0]
    simp only [Int.toNat_zero, Nat.xor_zero]
    omega
theorem own {l : List Int} (hu : U l) {n : Nat} (h1 : l.length ≤ 17592186044416) (h2 : n ≤ 17592186044416) : Ev (fun q => words_own.f q l (n : Int)) (l ++ List.replicate (max l.length n - l.length) 0) := by
  unfold words_own.f
  rw [mx_len]
  have a1 : (0 : Int) ≤ ((max l.length n : Nat) : Int) := by omega
  have a2 : (((max l.length n : Nat) : Int)).toNat ≤ 35184372088832 := by omega
  simp only [a1, a2, if_true]
  have := own_loop hu (N := max l.length n) (by omega) (by omega) l.length 0 (by omega)
  rw [xorL_zeros hu (by omega)] at this
  simpa [xorL] using this
theorem Xor_loop {a b : List Int} (ha : U a) (hb : U b) (hl : b.length ≤ a.length) (ha2 : a.length ≤ 17592186044416) (d : Nat) : ∀ i : Nat, i + d = b.length → Ev (fun q => words_Xor.l0 q (xorL (b.take i) a) b (b.length : Int) (i : Int)) (xorL b a) := by
  induction d with
  | zero =>
    intro i hi
    refine Ev.step (f := fun _ => some (xorL b a)) (fun q => ?_) (Ev.now _)
    simp only [words_Xor.l0]
    rw [if_neg (by omega), List.take_of_length_le (by omega)]
  | succ d ih =>
    intro i hi
    have hlen : (xorL (b.take i) a).length = a.length := by rw [xorL_length]; simp; omega
    refine Ev.step (fun q => ?_) (ih (i + 1) (by omega))
    simp only [words_Xor.l0]
    rw [if_pos (by omega), if_pos (by omega), if_pos (by omega), if_pos (by rw [hlen]; omega), rd_nat, rd_nat, xor64 ((U_xorL (hb.take i) ha).getD i) (hb.getD i), Int.toNat_natCast, xor_round ha hb hl (by omega), w64 (by omega) (by omega), show (i : Int) + 1 = ((i + 1 : Nat) : Int) by omega]
theorem Xor {a b : List Int} (ha : U a) (hb : U b) (h1 : a.length ≤ 17592186044416) (h2 : b.length ≤ 17592186044416) : Ev (fun q => words_Xor.f q a b) (xorL a b) := by
  unfold words_Xor.f
  refine Ev.bind (own ha h1 h2) ?_
  have := Xor_loop (ha.append (U.replicate (max a.length b.length - a.length))) hb (by simp; omega) (by simp; omega) b.length 0 (by omega)
  rw [xorL_append_zeros ha hb (by omega)] at this
  simpa [xorL] using this
/-! Count -/
theorem OnesCount (x : Nat) (hx : x < 18446744073709551616) : bits_OnesCount64.f (x : Int) = some (cnt x : Int) := by
  obtain ⟨h1, h2, h3⟩ := swar x hx
  have hT := Q_top x
  have e1 : IntKind.u64.wrap ((Go.bits .and .u64 ((x : Int) / 2) 6148914691236517205) + (Go.bits .and .u64 (x : Int) 6148914691236517205)) = ((s1 (m5 8) x : Nat) : Int) := by
    rw [and64 (by omega) (by decide), and64 (by omega) (by decide), show ((x : Int) / 2).toNat = x / 2 by omega, Int.toNat_natCast, show (6148914691236517205 : Int).toNat = m5 8 by decide]
    unfold s1 at h1 ⊢
    rw [wu64 (by omega) (by omega)]
    omega
  unfold bits_OnesCount64.f
  rw [e1]
  have e2 : IntKind.u64.wrap ((Go.bits .and .u64 (((s1 (m5 8) x : Nat) : Int) / 4) 3689348814741910323) + (Go.bits .and .u64 ((s1 (m5 8) x : Nat) : Int) 3689348814741910323)) = ((Q 8 x : Nat) : Int) := by
    rw [and64 (by omega) (by decide), and64 (by omega) (by decide), Int.toNat_natCast, show (3689348814741910323 : Int).toNat = m3 8 by decide, show (((s1 (m5 8) x : Nat) : Int) / 4).toNat = s1 (m5 8) x / 4 by omega]
    have e : s2 (m3 8) (s1 (m5 8) x) = Q 8 x := h2
    unfold s2 at e
    rw [wu64 (by omega) (by omega)]
    omega
  rw [e2]
  have e3 : Go.bits .and .u64 (IntKind.u64.wrap (((Q 8 x : Nat) : Int) / 16 + ((Q 8 x : Nat) : Int))) 1085102592571150095 = ((P 8 x : Nat) : Int) := by
    rw [wu64 (by omega) (by omega), and64 (by omega) (by decide), show (1085102592571150095 : Int).toNat = mf 8 by decide, show (((Q 8 x : Nat) : Int) / 16 + ((Q 8 x : Nat) : Int)).toNat = Q 8 x / 16 + Q 8 x by omega]
    have := s3_Q 8 x
    unfold s3 at this
    rw [this]
  rw [e3]
  obtain ⟨a1, a2, a3, a4⟩ := fold_P x hx _ _ _ rfl rfl rfl
  generalize P 8 x = p at *
  have f1 : IntKind.u64.wrap ((p : Int) + (p : Int) / 256) = ((p / 256 + p : Nat) : Int) := by rw [wu64 (by omega) (by omega)]; omega
  rw [f1]
  generalize hp1 : p / 256 + p = p1 at *
  have f2 : IntKind.u64.wrap ((p1 : Int) + (p1 : Int) / 65536) = ((p1 / 65536 + p1 : Nat) : Int) := by rw [wu64 (by omega) (by omega)]; omega
  rw [f2]
  generalize hp2 : p1 / 65536 + p1 = p2 at *
  have f3 : IntKind.u64.wrap ((p2 : Int) + (p2 : Int) / 4294967296) = ((p2 / 4294967296 + p2 : Nat) : Int) := by rw [wu64 (by omega) (by omega)]; omega
  rw [f3]
  generalize hp3 : p2 / 4294967296 + p2 = p3 at *
  rw [← a4]
  rw [w64 (by omega) (by omega), and_i64_127 _ a3]
theorem Count_loop {l : List Int} (hu : U l) (hl : l.length ≤ 17592186044416) (d : Nat) : ∀ (i n : Nat), i + d = l.length → n ≤ 64 * i → Ev (fun q => words_Count.l0 q (n : Int) l (l.length : Int) (i : Int)) ((n + cnt (val (l.drop i)) : Nat) : Int) := by
  induction d with
  | zero =>
    intro i n hi hn
    refine Ev.step (f := fun _ => some ((n + cnt (val (l.drop i)) : Nat) : Int)) (fun q => ?_) (Ev.now _)
    simp only [words_Count.l0]
    rw [if_neg (by omega), List.drop_of_length_le (by omega)]
    simp [val, cnt_zero]
  | succ d ih =>
    intro i n hi hn
    have hx := hu.getD i
    obtain ⟨x, hxe⟩ := Int.eq_ofNat_of_zero_le hx.1
    rw [hxe] at hx
    have hc : cnt x ≤ 64 := cnt_le 64 x (by rw [pow64]; omega)
    have e : cnt (val (l.drop i)) = cnt x + cnt (val (l.drop (i + 1))) := by
      rw [val_drop (by omega), hxe, Int.toNat_natCast, cnt_cons _ _ (by omega)]
    have h := ih (i + 1) (n + cnt x) (by omega) (by omega)
    rw [show n + cnt (val (l.drop i)) = n + cnt x + cnt (val (l.drop (i + 1))) by omega]
    refine Ev.step (fun q => ?_) h
    simp only [words_Count.l0]
    rw [if_pos (by omega), if_pos (by omega), if_pos (by omega), rd_nat, hxe, OnesCount _ (by omega)]
    simp only [Option.bind_some]
    rw [w64 (by omega) (by omega), w64 (by omega) (by omega), show (n : Int) + (cnt x : Int) = ((n + cnt x : Nat) : Int) by omega, show (i : Int) + 1 = ((i + 1 : Nat) : Int) by omega]
theorem Count {l : List Int} (hu : U l) (hl : l.length ≤ 17592186044416) : Ev (fun q => words_Count.f q l) (cnt (val l) : Int) := by
  have := Count_loop hu hl l.length 0 0 (by omega) (by omega)
  simpa [words_Count.f] using this
/-! First -/
theorem First_loop {l : List Int} (hu : U l) (hl : l.length ≤ 17592186044416) (d : Nat) : ∀ (i : Nat), i + d = l.length → Ev (fun q => words_First.l0 q l (l.length : Int) (i : Int)) (if val (l.drop i) = 0 then -1 else ((64 * i + low (val (l.drop i)) : Nat) : Int)) := by
  induction d with
  | zero =>
    intro i hi
    refine Ev.step (f := fun _ => some (-1)) (fun q => ?_) (by rw [List.drop_of_length_le (by omega), val, if_pos rfl]; exact Ev.now _)
    simp only [words_First.l0]
    rw [if_neg (by omega)]
  | succ d ih =>
    intro i hi
    have hx := hu.getD i
    obtain ⟨x, hxe⟩ := Int.eq_ofNat_of_zero_le hx.1
    rw [hxe] at hx
    have hv := val_drop (l := l) (i := i) (by omega)
    rw [hxe, Int.toNat_natCast] at hv
    by_cases h0 : x = 0
    · have h := ih (i + 1) (by omega)
      rw [h0, Nat.zero_add] at hv
      have e : (if val (l.drop i) = 0 then (-1 : Int) else ((64 * i + low (val (l.drop i)) : Nat) : Int)) = (if val (l.drop (i + 1)) = 0 then -1 else ((64 * (i + 1) + low (val (l.drop (i + 1))) : Nat) : Int)) := by
        by_cases hz : val (l.drop (i + 1)) = 0
        · rw [hv, hz]; simp
        · rw [if_neg hz, if_neg (by omega), hv, low_mul _ hz]; congr 1; omega
      rw [e]
      refine Ev.step (fun q => ?_) h
      simp only [words_First.l0]
      rw [if_pos (by omega), if_pos (by omega), if_pos (by omega), rd_nat, hxe, if_pos (by omega), w64 (by omega) (by omega), show (i : Int) + 1 = ((i + 1 : Nat) : Int) by omega]
    · have hlw : low x < 64 := by
        have := (low_spec h0).1
        rcases Nat.lt_or_ge (low x) 64 with h | h
        · exact h
        · rw [Nat.testBit_lt_two_pow (Nat.lt_of_lt_of_le (by rw [pow64]; omega : x < 2 ^ 64) (Nat.pow_le_pow_right (by decide) h))] at this
          cases this
      rw [hv, if_neg (by omega), low_add _ _ h0 (by omega)]
      refine Ev.step (f := fun _ => some ((64 * i + low x : Nat) : Int)) (fun q => ?_) (Ev.now _)
      simp only [words_First.l0]
      rw [if_pos (by omega), if_pos (by omega), if_pos (by omega), rd_nat, hxe, if_neg (by omega)]
      unfold bits_TrailingZeros64.f
      rw [if_pos (by omega), if_pos (by omega), Int.toNat_natCast, ctz_low x h0 (by omega)]
      simp only [Option.bind_some]
      rw [w64 (x := 64 * (i : Int)) (by omega) (by omega), w64 (by omega) (by omega)]
      congr 1
theorem First {l : List Int} (hu : U l) (hl : l.length ≤ 17592186044416) : Ev (fun q => words_First.f q l) (firstZ (val l)) := by
  have := First_loop hu hl l.length 0 (by omega)
  unfold firstZ
  simpa [words_First.f] using this
/-- A word with a bit. -/
def wset (x : Int) (b : Nat) (on : Bool) : Int := if x.toNat.testBit b = on then x else ((x.toNat ^^^ 2 ^ b : Nat) : Int)
/-- A row with a bit. -/
def setL (l : List Int) (i : Int) (on : Bool) : List Int := if 0 ≤ i ∧ i.toNat / 64 < l.length then l.set (i.toNat / 64) (wset (l.getD (i.toNat / 64) 0) (i.toNat % 64) on) else l
def unitL (k i : Int) : List Int := if sizeZ k = 0 ∨ i < 0 ∨ i ≥ k then [] else setL (List.replicate (sizeZ k).toNat 0) i true
end Go.Proofs.YtlpcphndgjibpaaDoor.S
