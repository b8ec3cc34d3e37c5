/- A packet's bytes and what is read of them. -/
import Derived.Test.YtbcphdbcdjdfpaaDoorZBSpa
namespace Go.Proofs.YtbcphdbcdjdfpaaDoor.S
open Go.RowKit Go.Proofs.YtbcphdbcdjdfpaaDoor.P Go.Proofs.YtbcphdbcdjdfpaaDoorW.PrintWords Go.Proofs.YtbcphdbcdjdfpaaDoorW.PrintLast Go.Proofs.YtbcphdbcdjdfpaaDoorW.PrintMore Go.Proofs.YtbcphdbcdjdfpaaDoor.M
set_option linter.unusedVariables false
theorem bytesOf_extract (s : ByteArray) (a b : Nat) : bytesOf (s.extract a b) = ((bytesOf s).drop a).take (b - a) := by
  unfold bytesOf
  rw [ByteArray.data_extract, Array.toList_extract, List.extract_eq_take_drop, List.map_take, List.map_drop]
theorem bytesOf_rest (s : ByteArray) (a : Nat) : bytesOf (s.extract a s.size) = (bytesOf s).drop a := by
  rw [bytesOf_extract, List.take_of_length_le]
  rw [List.length_drop, ← bytesOf_size]; omega
theorem bytesOf_encB (o l k z h : Int) (v : List Int) (d : ByteArray) : bytesOf (encB o l k z h v d) = [o / 16777216 % 256, o / 65536 % 256, o / 256 % 256, o % 256, l / 16777216 % 256, l / 65536 % 256, l / 256 % 256, l % 256, k % 256, z % 256, h % 256] ++ (bytesV v ++ bytesOf d) := by
  unfold encB
  simp only [bytesOf_append, bytesOf_strOfNums (putL_B _ _), bytesOf_strOfNums (bytesV_B v)]
  simp only [putL_4, putL_1, List.cons_append, List.nil_append]
theorem encB_size (o l k z h : Int) (v : List Int) (d : ByteArray) : (encB o l k z h v d).size = 11 + 8 * v.length + d.size := by
  rw [bytesOf_size, bytesOf_encB, List.length_append, List.length_append, bytesV_length, ← bytesOf_size]
  show 11 + _ = _
  omega
theorem bt_of {s : ByteArray} {L : List Int} (h : bytesOf s = L) (i : Nat) : bt s (i : Int) = L.getD i 0 := by rw [bt_rd, h]
theorem get4 {s : ByteArray} {a b c d : Int} {t : List Int} (h : bytesOf s = a :: b :: c :: d :: t) : getR s 4 = (((((a.toNat * 256 + b.toNat) * 256 + c.toNat) * 256 + d.toNat : Nat) : Int), 0) := by
  have h0 := bt_of h 0
  have h1 := bt_of h 1
  have h2 := bt_of h 2
  have h3 := bt_of h 3
  simp only [List.getD_cons_zero, List.getD_cons_succ] at h0 h1 h2 h3
  have hs : s.size = t.length + 4 := by rw [bytesOf_size, h]; rfl
  rw [getR_yes s (by omega), if_neg (by omega)]
  simp only [show (4 : Int).toNat = 4 from rfl, bePart, Nat.zero_add, h0, h1, h2, h3, Nat.zero_mul]
theorem num4 {n : Int} (h0 : 0 ≤ n) (h1 : n < 4294967296) : (((((n / 16777216 % 256).toNat * 256 + (n / 65536 % 256).toNat) * 256 + (n / 256 % 256).toNat) * 256 + (n % 256).toNat : Nat) : Int) = n := by omega
theorem sizeZ_of {k : Int} {v : List Int} (h : validB k v = true) : sizeZ k = (v.length : Int) := (valid_len h).1.symm
theorem dec_enc {o l k z h : Int} {v : List Int} {d : ByteArray} (hu : U v) (p : OkP o l k z h v d) : dec (encB o l k z h v d) = (o, l, k, z, h, v, d, 0) := by
  have hB := bytesOf_encB o l k z h v d
  have hS := encB_size o l k z h v d
  generalize encB o l k z h v d = s at hB hS
  have hkz := sizesB_of p.kz
  have hm := mul_small p.kz
  have p0 := p.o0; have p1 := p.o1; have p2 := p.h0; have p3 := p.h1; have p4 := p.l0; have p5 := p.l1; have p6 := p.dz
  have hz := sizeZ_of p.va
  have b8 : bt s 8 = k := by rw [show (8 : Int) = ((8 : Nat) : Int) from rfl, bt_of hB]; show k % 256 = k; omega
  have b9 : bt s 9 = z := by rw [show (9 : Int) = ((9 : Nat) : Int) from rfl, bt_of hB]; show z % 256 = z; omega
  have b10 : bt s 10 = h := by rw [show (10 : Int) = ((10 : Nat) : Int) from rfl, bt_of hB]; show h % 256 = h; omega
  have eO : dO s = o := by
    unfold dO; rw [get4 hB]; exact num4 p0 p1
  have eL : dL s = l := by
    unfold dL
    have : bytesOf (s.extract 4 s.size) = l / 16777216 % 256 :: l / 65536 % 256 :: l / 256 % 256 :: l % 256 :: ([k % 256, z % 256, h % 256] ++ (bytesV v ++ bytesOf d)) := by rw [bytesOf_rest, hB]; rfl
    rw [get4 this]; exact num4 p4 (by omega)
  have eX : s.extract 11 s.size = strOfNums (bytesV v) ++ d := by
    apply bytesOf_inj
    rw [bytesOf_rest, hB, bytesOf_append, bytesOf_strOfNums (bytesV_B v)]; rfl
  have eV : dV s = v := by
    unfold dV
    rw [b8, eX]
    have hsz : (strOfNums (bytesV v) ++ d).size = 8 * v.length + d.size := by rw [ByteArray.size_append, sizeV]
    unfold getvR
    rw [hz, if_neg (by have := (valid_len p.va).1; unfold sizeZ at this; rw [if_pos ⟨hkz.1, hkz.2.1⟩] at this; omega), if_neg (by rw [hsz]; omega), Int.toNat_natCast, beWords_bytes hu d, if_pos p.va]
  have eD : dD s = d := by
    unfold dD
    rw [b8, hz]
    apply bytesOf_inj
    have : (11 + 8 * (v.length : Int)).toNat = 11 + (bytesV v).length := by rw [bytesV_length]; omega
    rw [bytesOf_rest, this, ← List.drop_drop, hB]
    show ((bytesV v ++ bytesOf d).drop _) = _
    rw [List.drop_left]
  have ok : dOk s := by
    unfold dOk; rw [eO, eL, b8, b9, b10, eV, eD]; exact p
  rw [dec_ok (by omega) (by rw [b8, b9]; exact p.kz) (by rw [b8, b9, hz]; omega) ok, eO, eL, b8, b9, b10, eV, eD]
theorem bePart_div (s : ByteArray) (i m : Nat) : ∀ t, bePart s i (m + t) / 256 ^ t = bePart s i m
  | 0 => by simp
  | t + 1 => by
    have h := bt_range s ((i + (m + t) : Nat) : Int)
    rw [← Nat.add_assoc, bePart, Nat.pow_succ, Nat.mul_comm (256 ^ t) 256, ← Nat.div_div_eq_div_mul, show (bePart s i (m + t) * 256 + (bt s ((i + (m + t) : Nat) : Int)).toNat) / 256 = bePart s i (m + t) by omega]
    exact bePart_div s i m t
theorem bePart_byte (s : ByteArray) (i m : Nat) : ((bePart s i (m + 1) % 256 : Nat) : Int) = bt s ((i + m : Nat) : Int) := by
  have h := bt_range s ((i + m : Nat) : Int)
  rw [bePart]; omega
theorem bytes8_part (s : ByteArray) (i : Nat) : bytes8 ((bePart s i 8 : Nat) : Int) = [bt s (i : Nat), bt s ((i + 1 : Nat)), bt s ((i + 2 : Nat)), bt s ((i + 3 : Nat)), bt s ((i + 4 : Nat)), bt s ((i + 5 : Nat)), bt s ((i + 6 : Nat)), bt s ((i + 7 : Nat))] := by
  have e := fun m t => bePart_div s i m t
  have e7 := e 1 7; have e6 := e 2 6; have e5 := e 3 5; have e4 := e 4 4; have e3 := e 5 3; have e2 := e 6 2; have e1 := e 7 1
  simp only [Nat.reduceAdd, Nat.reducePow] at e1 e2 e3 e4 e5 e6 e7
  have f := fun m => bePart_byte s i m
  have f0 := f 0; have f1 := f 1; have f2 := f 2; have f3 := f 3; have f4 := f 4; have f5 := f 5; have f6 := f 6; have f7 := f 7
  simp only [Nat.reduceAdd, Nat.zero_add, Nat.add_zero] at f0 f1 f2 f3 f4 f5 f6 f7
  unfold bytes8
  rw [← f0, ← f1, ← f2, ← f3, ← f4, ← f5, ← f6, ← f7, ← e1, ← e2, ← e3, ← e4, ← e5, ← e6, ← e7]
  simp only [Int.natCast_emod, Int.natCast_ediv]
  rfl
theorem bytesV_part (s : ByteArray) (n : Nat) (h : 8 * n ≤ s.size) : bytesV (beWords s n) = (bytesOf s).take (8 * n) := by
  induction n with
  | zero => simp [beWords, bytesV]
  | succ n ih =>
    rw [beWords_succ, bytesV_append, ih (by omega)]
    have hl : (bytesOf s).length = s.size := bytesOf_length s
    show _ = List.take (8 * (n + 1)) (bytesOf s)
    rw [show 8 * (n + 1) = 8 * n + 8 by omega, List.take_add]
    congr 1
    have hd : ∀ j, j < 8 → bt s ((8 * n + j : Nat) : Int) = ((bytesOf s).drop (8 * n)).getD j 0 := fun j hj => by
      rw [bt_rd, List.getD_eq_getElem?_getD, List.getD_eq_getElem?_getD, List.getElem?_drop]
    have hl2 : 8 ≤ ((bytesOf s).drop (8 * n)).length := by rw [List.length_drop]; omega
    have hx : bytesV [((bePart s (8 * n) 8 : Nat) : Int)] = bytes8 ((bePart s (8 * n) 8 : Nat) : Int) := by simp [bytesV]
    rw [hx, bytes8_part]
    have g0 := hd 0 (by omega); have g1 := hd 1 (by omega); have g2 := hd 2 (by omega); have g3 := hd 3 (by omega); have g4 := hd 4 (by omega); have g5 := hd 5 (by omega); have g6 := hd 6 (by omega); have g7 := hd 7 (by omega)
    rw [Nat.add_zero] at g0
    rw [g0, g1, g2, g3, g4, g5, g6, g7]
    generalize (bytesOf s).drop (8 * n) = L at hl2
    match L, hl2 with
    | a :: b :: c :: d :: e :: f :: g :: i :: t, _ => rfl
theorem dec_back {s : ByteArray} (h : (dec s).2.2.2.2.2.2.2 = 0) : ∃ o l k z h v d, dec s = (o, l, k, z, h, v, d, 0) ∧ OkP o l k z h v d ∧ U v ∧ v.length ≤ 2 ∧ encB o l k z h v d = s := by
  by_cases h1 : (s.size : Int) < 11
  · rw [dec_short h1] at h; cases h
  by_cases h2 : sizesB (bt s 8) (bt s 9) = true
  case neg => rw [dec_syn h1 h2] at h; cases h
  by_cases h3 : (s.size : Int) < 11 + 8 * sizeZ (bt s 8) + bt s 9
  · rw [dec_size h1 h2 h3] at h; cases h
  by_cases h4 : dOk s
  case neg => rw [dec_bad h1 h2 h3 h4] at h; cases h
  refine ⟨_, _, _, _, _, _, _, dec_ok h1 h2 h3 h4, h4, dV_U s, dV_len s, ?_⟩
  have p : OkP (dO s) (dL s) (bt s 8) (bt s 9) (bt s 10) (dV s) (dD s) := h4
  apply bytesOf_inj
  rw [bytesOf_encB]
  have hlen : 11 ≤ (bytesOf s).length := by rw [bytesOf_length]; omega
  obtain ⟨a0, a1, a2, a3, a4, a5, a6, a7, a8, a9, a10, T, hL⟩ : ∃ a0 a1 a2 a3 a4 a5 a6 a7 a8 a9 a10 T, bytesOf s = a0 :: a1 :: a2 :: a3 :: a4 :: a5 :: a6 :: a7 :: a8 :: a9 :: a10 :: T := by
    generalize bytesOf s = L at hlen
    match L, hlen with
    | a0 :: a1 :: a2 :: a3 :: a4 :: a5 :: a6 :: a7 :: a8 :: a9 :: a10 :: T, _ => exact ⟨_, _, _, _, _, _, _, _, _, _, _, _, rfl⟩
  have hr : B (bytesOf s) := bytesOf_B s
  rw [hL] at hr
  have r := fun x hx => hr x hx
  have c8 : bt s 8 = a8 := by rw [show (8 : Int) = ((8 : Nat) : Int) from rfl, bt_of hL]; rfl
  have c9 : bt s 9 = a9 := by rw [show (9 : Int) = ((9 : Nat) : Int) from rfl, bt_of hL]; rfl
  have c10 : bt s 10 = a10 := by rw [show (10 : Int) = ((10 : Nat) : Int) from rfl, bt_of hL]; rfl
  have e4 : bytesOf (s.extract 4 s.size) = a4 :: a5 :: a6 :: a7 :: (a8 :: a9 :: a10 :: T) := by rw [bytesOf_rest, hL]; rfl
  have e11 : bytesOf (s.extract 11 s.size) = T := by rw [bytesOf_rest, hL]; rfl
  have eO : dO s = (((((a0.toNat * 256 + a1.toNat) * 256 + a2.toNat) * 256 + a3.toNat : Nat)) : Int) := by unfold dO; rw [get4 hL]
  have eL : dL s = (((((a4.toNat * 256 + a5.toNat) * 256 + a6.toNat) * 256 + a7.toNat : Nat)) : Int) := by unfold dL; rw [get4 e4]
  have i0 := r a0 (by simp); have i1 := r a1 (by simp); have i2 := r a2 (by simp); have i3 := r a3 (by simp); have i4 := r a4 (by simp); have i5 := r a5 (by simp); have i6 := r a6 (by simp); have i7 := r a7 (by simp); have i8 := r a8 (by simp); have i9 := r a9 (by simp); have i10 := r a10 (by simp)
  have hz := sizeZ_of p.va
  have hzn := sizeZ_nn (bt s 8)
  have hTl : T.length = s.size - 11 := by have := bytesOf_length s; rw [hL] at this; simp only [List.length_cons] at this; omega
  have eV : dV s = beWords (s.extract 11 s.size) (sizeZ (bt s 8)).toNat := by
    have hva := p.va
    unfold dV at hva ⊢
    unfold getvR at hva ⊢
    split at hva
    · rw [validB_nil] at hva; cases hva
    · rename_i q1
      rw [if_neg q1]
      split at hva
      · rw [validB_nil] at hva; cases hva
      · rename_i q2
        rw [if_neg q2]
        split at hva
        · rename_i q3; rw [if_pos q3]
        · rw [validB_nil] at hva; cases hva
  have eVb : bytesV (dV s) = T.take (8 * (sizeZ (bt s 8)).toNat) := by
    rw [eV, bytesV_part _ _ (by rw [bytesOf_size, e11, hTl]; have := bt_range s 9; omega), e11]
  have eD : bytesOf (dD s) = T.drop (8 * (sizeZ (bt s 8)).toNat) := by
    unfold dD
    rw [bytesOf_rest, show (11 + 8 * sizeZ (bt s 8)).toNat = 11 + 8 * (sizeZ (bt s 8)).toNat by omega, ← List.drop_drop, hL]
    rfl
  rw [eVb, eD, List.take_append_drop, eO, eL, c8, c9, c10, hL]
  simp only [List.cons_append, List.nil_append, List.cons.injEq, and_true]
  clear hr r hL e4 e11 eO eL eV eVb eD p h4 h3 h2
  refine ⟨?_, ?_, ?_, ?_, ?_, ?_, ?_, ?_, ?_, ?_, ?_⟩ <;> omega
end Go.Proofs.YtbcphdbcdjdfpaaDoor.S
