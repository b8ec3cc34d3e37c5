/- What the printed functions of nums and of its reference come to. -/
import Derived.Test.YtbcphdbcdjdfpaaDoorZBM3
import Derived.Test.YtbcphdbcdjdfpaaDoorZBSr
import Derived.Test.YtbcphdbcdjdfpaaDoorZBP4
import Derived.Test.YtbcphdbcdjdfpaaDoorZBP0
import Derived.Test.YtbcphdbcdjdfpaaDoorZBP3
import Derived.Test.YtbcphdbcdjdfpaaDoorZBP5
import Derived.Test.YtbcphdbcdjdfpaaDoorZBP7
import Derived.Test.YtbcphdbcdjdfpaaDoorZBP15
import Derived.Test.YtbcphdbcdjdfpaaDoorZBP12
import Derived.Test.YtbcphdbcdjdfpaaDoorZBP17
namespace Go.Proofs.YtbcphdbcdjdfpaaDoor.S
open Go.RowKit Go.Proofs.YtbcphdbcdjdfpaaDoor.P Go.Proofs.YtbcphdbcdjdfpaaDoorW.PrintWords Go.Proofs.YtbcphdbcdjdfpaaDoorW.PrintLast Go.Proofs.YtbcphdbcdjdfpaaDoorW.PrintMore Go.Proofs.YtbcphdbcdjdfpaaDoor.M
set_option linter.unusedVariables false
set_option linter.unusedSimpArgs false
theorem join_loop {l : List Int} (d : Nat) : ∀ (a : List Int) (i : Nat), i + d = l.length → a.length + d < 140737488355328 → l.length < 9000000000000000000 → Ev (fun q => nums_join.l0 q a l (l.length : Int) (i : Int)) (a ++ (l.drop i).map (· % 256)) := by
  induction d with
  | zero =>
    intro a i hi _ _
    refine Ev.step (f := fun _ => some (a ++ (l.drop i).map (· % 256))) (fun q => ?_) (Ev.now _)
    simp only [nums_join.l0]
    rw [if_neg (by omega), List.drop_of_length_le (by omega), List.map_nil, List.append_nil]
  | succ d ih =>
    intro a i hi ha hl
    have := ih (a ++ [rd l (i : Int) % 256]) (i + 1) (by omega) (by simp; omega) hl
    rw [drop_cons (by omega)]
    rw [List.append_assoc, List.singleton_append, rd_nat] at this
    refine Ev.step (fun q => ?_) this
    simp only [nums_join.l0]
    rw [if_pos (by omega), if_pos (by omega), if_pos (by omega), if_pos (by omega), w64 (by omega) (by omega), rd_nat, show (i : Int) + 1 = ((i + 1 : Nat) : Int) by omega]
theorem join {a l : List Int} (h : a.length + l.length < 140737488355328) : Ev (fun q => nums_join.f q a l) (a ++ l.map (· % 256)) := by
  have := join_loop (l := l) l.length a 0 (by omega) (by omega) (by omega)
  simpa [nums_join.f] using this
/-- A number's bytes. -/
def putL (n w : Int) : List Int := if w = 1 then [n % 256] else if w = 2 then [n / 256 % 256, n % 256] else if w = 4 then [n / 16777216 % 256, n / 65536 % 256, n / 256 % 256, n % 256] else []
theorem putL_B (n w : Int) : B (putL n w) := by
  unfold putL
  intro x hx
  split at hx
  · simp at hx; omega
  · split at hx
    · simp at hx; omega
    · split at hx
      · simp at hx; omega
      · cases hx
theorem Put (n w : Int) : Ev (fun q => nums_Put.f q n w) (strOfNums (putL n w)) := by
  unfold nums_Put.f putL
  by_cases h1 : w = 1
  · simp only [h1, if_true]
    refine Ev.bind (join (by simp)) ?_
    have : ([] : List Int) ++ [IntKind.u64.wrap n].map (· % 256) = [n % 256] := by
      simp only [List.nil_append, List.map_cons, List.map_nil, IntKind.wrap_u64]; congr 1; omega
    rw [this]
    exact Ev.now _
  · by_cases h2 : w = 2
    · simp only [h1, h2, if_true, if_false]
      refine Ev.bind (join (by simp)) ?_
      have : ([] : List Int) ++ [IntKind.u64.wrap n / 256, IntKind.u64.wrap n].map (· % 256) = [n / 256 % 256, n % 256] := by
        simp only [List.nil_append, List.map_cons, List.map_nil, IntKind.wrap_u64]; congr 1
        · omega
        · congr 1; omega
      rw [if_neg (by decide), this]
      exact Ev.now _
    · by_cases h4 : w = 4
      · simp only [h1, h2, h4, if_true, if_false]
        refine Ev.bind (join (by simp)) ?_
        have : ([] : List Int) ++ [IntKind.u64.wrap n / 16777216, IntKind.u64.wrap n / 65536, IntKind.u64.wrap n / 256, IntKind.u64.wrap n].map (· % 256) = [n / 16777216 % 256, n / 65536 % 256, n / 256 % 256, n % 256] := by
          simp only [List.nil_append, List.map_cons, List.map_nil, IntKind.wrap_u64]; congr 1
          · omega
          · congr 1
            · omega
            · congr 1
              · omega
              · congr 1; omega
        rw [if_neg (by decide), if_neg (by decide), this]
        exact Ev.now _
      · simp only [h1, h2, h4, if_false]
        exact Ev.now _
/-- What Get answers. -/
def getR (s : ByteArray) (w : Int) : Int × Int := if w = 1 ∨ w = 2 ∨ w = 4 then (if (s.size : Int) < w then (0, 2) else ((bePart s 0 w.toNat : Nat), 0)) else (0, 1)
theorem getR_yes (s : ByteArray) {w : Int} (h : w = 1 ∨ w = 2 ∨ w = 4) : getR s w = if (s.size : Int) < w then (0, 2) else (((bePart s 0 w.toNat : Nat) : Int), 0) := by unfold getR; rw [if_pos h]
theorem getR_no (s : ByteArray) {w : Int} (h : ¬ (w = 1 ∨ w = 2 ∨ w = 4)) : getR s w = (0, 1) := by unfold getR; rw [if_neg h]
theorem pow_le4 {t : Nat} (h : t ≤ 4) : 256 ^ t ≤ 4294967296 := by
  have : (256 : Nat) ^ t ≤ 256 ^ 4 := Nat.pow_le_pow_right (by decide) h
  simpa using this
theorem Get_loop (s : ByteArray) (w : Nat) (hw : w ≤ 4) (hs : w ≤ s.size) (d : Nat) : ∀ t : Nat, t + d = w → Ev (fun q => nums_Get.l0 q s ((bePart s 0 t : Nat) : Int) (w : Int) (t : Int)) (((bePart s 0 w : Nat) : Int), 0) := by
  induction d with
  | zero =>
    intro t ht
    refine Ev.step (f := fun _ => some (((bePart s 0 w : Nat) : Int), 0)) (fun q => ?_) (Ev.now _)
    simp only [nums_Get.l0]
    rw [if_neg (by omega), show t = w by omega]
  | succ d ih =>
    intro t ht
    refine Ev.step (fun q => ?_) (ih (t + 1) (by omega))
    have h1 := bePart_lt s 0 t
    have h2 := pow_le4 (t := t) (by omega)
    simp only [nums_Get.l0]
    rw [if_pos (by omega), if_pos (by omega), if_pos (by omega), or_byte _ _ _ (by omega), w64 (by omega) (by omega), bePart, Nat.zero_add]
    rw [show (t : Int) + 1 = ((t + 1 : Nat) : Int) by omega]
theorem Get (s : ByteArray) {w : Int} (hw : (Lit.int .i64 w).wf = true) : Ev (fun q => nums_Get.f q s w) (getR s w) := by
  have hw := i64_of_wf hw
  unfold nums_Get.f
  have key : ∀ v : Int, v = 1 ∨ v = 2 ∨ v = 4 → Ev (fun q => nums_Get.j0 q s v false) (if (s.size : Int) < v then (0, 2) else (((bePart s 0 v.toNat : Nat) : Int), 0)) := by
    intro v hv
    by_cases h : (s.size : Int) < v
    · rw [if_pos h]
      refine Ev.step (f := fun _ => some (0, 2)) (fun q => ?_) (Ev.now _)
      simp only [nums_Get.j0, Bool.false_eq_true, if_false, h, if_true]
    · rw [if_neg h]
      have := Get_loop s v.toNat (by omega) (by omega) v.toNat 0 (by omega)
      rw [show ((v.toNat : Nat) : Int) = v by omega] at this
      refine Ev.step (fun q => ?_) this
      simp only [nums_Get.j0, Bool.false_eq_true, if_false, h, bePart, Int.natCast_zero]
  by_cases h1 : w = 1
  · subst h1; rw [getR_yes s (by omega)]; simpa using key 1 (by omega)
  · by_cases h2 : w = 2
    · subst h2; rw [getR_yes s (by omega)]; simpa using key 2 (by omega)
    · by_cases h4 : w = 4
      · subst h4; rw [getR_yes s (by omega)]; simpa using key 4 (by omega)
      · rw [getR_no s (by omega)]
        simp only [h1, h2, if_false]
        refine Ev.step (f := fun _ => some (0, 1)) (fun q => ?_) (Ev.now _)
        simp [nums_Get.j0, h4]
/-! rows -/
theorem PutVec_loop {l : List Int} (hl : l.length < 10000000000) (d : Nat) : ∀ (a : List Int) (i : Nat), i + d = l.length → a.length = 8 * i → Ev (fun q => nums_PutVec.l0 q a l (l.length : Int) (i : Int)) (strOfNums (a ++ bytesV (l.drop i))) := by
  induction d with
  | zero =>
    intro a i hi ha
    refine Ev.step (f := fun _ => some (strOfNums (a ++ bytesV (l.drop i)))) (fun q => ?_) (Ev.now _)
    simp only [nums_PutVec.l0]
    rw [if_neg (by omega), List.drop_of_length_le (by omega)]
    simp [bytesV]
  | succ d ih =>
    intro a i hi ha
    have h := ih (a ++ bytes8 (l.getD i 0)) (i + 1) (by omega) (by simp [bytes8]; omega)
    rw [List.append_assoc, ← bytesV_cons, ← drop_cons (by omega)] at h
    have hj := join (a := a) (l := [rd l (i : Int) / 72057594037927936, rd l (i : Int) / 281474976710656, rd l (i : Int) / 1099511627776, rd l (i : Int) / 4294967296, rd l (i : Int) / 16777216, rd l (i : Int) / 65536, rd l (i : Int) / 256, rd l (i : Int)]) (by simp; omega)
    have e : [rd l (i : Int) / 72057594037927936, rd l (i : Int) / 281474976710656, rd l (i : Int) / 1099511627776, rd l (i : Int) / 4294967296, rd l (i : Int) / 16777216, rd l (i : Int) / 65536, rd l (i : Int) / 256, rd l (i : Int)].map (· % 256) = bytes8 (l.getD i 0) := by
      rw [rd_nat]; rfl
    rw [e] at hj
    refine Ev.step (fun q => ?_) (Ev.bind (f := fun q t => nums_PutVec.l0 q t l (l.length : Int) ((i + 1 : Nat) : Int)) hj h)
    simp only [nums_PutVec.l0]
    rw [if_pos (by omega), if_pos (by omega), if_pos (by omega), w64 (by omega) (by omega), show (i : Int) + 1 = ((i + 1 : Nat) : Int) by omega]
theorem PutVec {l : List Int} (hl : l.length < 10000000000) : Ev (fun q => nums_PutVec.f q l) (strOfNums (bytesV l)) := by
  have := PutVec_loop hl l.length [] 0 (by omega) rfl
  simpa [nums_PutVec.f] using this
/-- What GetVec answers. -/
def getvR (s : ByteArray) (k : Int) : List Int × Int :=
  if sizeZ k = 0 then ([], 1) else if (s.size : Int) < 8 * sizeZ k then ([], 2) else if validB k (beWords s (sizeZ k).toNat) = true then (beWords s (sizeZ k).toNat, 0) else ([], 3)
theorem getvR_U (s : ByteArray) (k : Int) : U (getvR s k).1 := by
  unfold getvR
  split
  · exact U.nil
  · split
    · exact U.nil
    · split
      · exact beWords_U _ _
      · exact U.nil
theorem getvR_len (s : ByteArray) (k : Int) : (getvR s k).1.length ≤ 2 := by
  have := sizeZ_nn k
  unfold getvR
  split
  · simp
  · split
    · simp
    · split
      · rw [beWords_length]; omega
      · simp
theorem GetVec_loop (s : ByteArray) (k : Int) (n : Nat) (hn : n ≤ 2) (hs : 8 * n ≤ s.size) (d : Nat) : ∀ t : Nat, t + d = 8 * n → Ev (fun q => nums_GetVec.l0 q s k (beWordsAt s n t) ((8 * n : Nat) : Int) (t : Int)) (if validB k (beWords s n) = true then (beWords s n, 0) else ([], 3)) := by
  induction d with
  | zero =>
    intro t ht
    refine Ev.step (f := fun _ => some (if validB k (beWords s n) = true then (beWords s n, 0) else ([], 3))) (fun q => ?_) (Ev.now _)
    simp only [nums_GetVec.l0]
    rw [if_neg (by omega), show t = 8 * n by omega, beWordsAt_full, words_Valid (beWords_U s n)]
    simp only [Option.bind_some]
    split <;> rfl
  | succ d ih =>
    intro t ht
    have h := ih (t + 1) (by omega)
    have h1 := bePart_lt s (8 * (t / 8)) (t % 8)
    have h2 : (256 : Nat) ^ (t % 8) ≤ 256 ^ 7 := Nat.pow_le_pow_right (by decide) (by omega)
    simp only [Nat.reducePow] at h2
    have hd : wrap64 (Int.tdiv (t : Int) 8) = ((t / 8 : Nat) : Int) := by rw [Int.tdiv_eq_ediv_of_nonneg (by omega), w64 (by omega) (by omega)]; omega
    rw [← beWordsAt_step s n t (by omega)] at h
    refine Ev.step (fun q => ?_) h
    simp only [nums_GetVec.l0]
    rw [if_pos (by omega), hd, if_pos (by omega), if_pos (by rw [beWordsAt_length]; omega), if_pos (by omega), if_pos (by omega), rd_nat, beWordsAt_getD _ _ _ _ (by omega), show min 8 (t - 8 * (t / 8)) = t % 8 by omega, or_byte64 _ _ _ (by omega), Int.toNat_natCast, w64 (by omega) (by omega)]
    rw [show (t : Int) + 1 = ((t + 1 : Nat) : Int) by omega]
theorem GetVec (s : ByteArray) (k : Int) : Ev (fun q => nums_GetVec.f q s k) (getvR s k) := by
  unfold nums_GetVec.f getvR
  rw [words_Size]
  have hz := sizeZ_nn k
  simp only [Option.bind_some]
  by_cases h0 : sizeZ k = 0
  · simp only [h0, if_true]; exact Ev.now _
  · rw [w64 (by omega) (by omega)]
    simp only [h0, if_false]
    by_cases h1 : (s.size : Int) < 8 * sizeZ k
    · simp only [h1, if_true]; exact Ev.now _
    · have h2 : 0 ≤ sizeZ k := hz.1
      have h3 : (sizeZ k).toNat ≤ 35184372088832 := by omega
      simp only [h1, if_false, h2, if_true, h3]
      have := GetVec_loop s k (sizeZ k).toNat (by omega) (by omega) _ 0 (Nat.zero_add _)
      rw [beWordsAt_zero, show ((8 * (sizeZ k).toNat : Nat) : Int) = 8 * sizeZ k by omega] at this
      exact this
theorem beWords_succ (s : ByteArray) (n : Nat) : beWords s (n + 1) = beWords s n ++ [((bePart s (8 * n) 8 : Nat) : Int)] := by
  simp [beWords, List.range_succ]
end Go.Proofs.YtbcphdbcdjdfpaaDoor.S
