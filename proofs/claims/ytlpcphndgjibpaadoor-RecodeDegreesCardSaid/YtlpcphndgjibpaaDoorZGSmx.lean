/- What recode.Mix and its reference come to. -/
import Derived.Test.YtlpcphndgjibpaaDoorZGSm
import Derived.Test.YtlpcphndgjibpaaDoorZGF
namespace Go.Proofs.YtlpcphndgjibpaaDoor.S
open Go.RowKit Go.Proofs.YtlpcphndgjibpaaDoor.P Go.Proofs.YtlpcphndgjibpaaDoorW.PrintWords Go.Proofs.YtlpcphndgjibpaaDoorW.PrintLast Go.Proofs.YtlpcphndgjibpaaDoorW.PrintMore Go.Proofs.YtlpcphndgjibpaaDoor.M
set_option linter.unusedVariables false
set_option linter.unusedSimpArgs false
abbrev SP := S38
def GoodP (p : SP) : Prop := GoodR p.f5
def pickP (l : List SP) : List Int → List SP
  | [] => []
  | i :: t => if 0 ≤ i ∧ i < l.length then l.getD i.toNat z38 :: pickP l t else pickP l t
def alike (p q : SP) : Bool := decide (p.f0 = q.f0 ∧ p.f1 = q.f1 ∧ p.f2 = q.f2 ∧ p.f3 = q.f3)
theorem alike_p (a b c d e : Int) (v : List Int) (s : ByteArray) (a' b' c' d' e' : Int) (v' : List Int) (s' : ByteArray) : packet_Alike.f a b c d e v s a' b' c' d' e' v' s' = some (decide (a = a' ∧ b = b' ∧ c = c' ∧ d = d')) := by
  unfold packet_Alike.f packet_headed.f
  simp only [Option.bind_some, Option.some.injEq]
  rw [Bool.eq_iff_iff]
  simp
abbrev MT := Int × Int × Int × Int × Int × List Int × ByteArray × Bool
def noM : MT := (0, 0, 0, 0, 0, [], ⟨#[]⟩, false)
def hopsOf (h : Int) (ps : List SP) : Int := ps.foldl (fun h p => mx h p.f4) h
/-- The end of Mix: of rows, the head and the hops. -/
def endM (a b c d h : Int) (rs : List SR) : MT := if val (rowV rs []) = 0 then noM else if h ≥ 15 then noM else (a, b, c, d, wrap64 (h + 1), rowV rs [], strOfNums (rowD rs []), true)
def mixR (ps : List SP) : MT := match ps with
  | [] => noM
  | p :: t => if (p :: t).all (alike p) = true then endM p.f0 p.f1 p.f2 p.f3 (hopsOf p.f4 (p :: t)) ((p :: t).map fun q => q.f5) else noM
theorem Mix_l1 {ps : List SP} (hg : ∀ p ∈ ps, GoodP p) (hn : ps.length ≤ 1000) (h0 : 0 < ps.length) (a b c d : Int) (v : List Int) (s : ByteArray) (e : Nat) : ∀ (i : Nat) (rs : List SR) (h : Int), i + e = ps.length → (∀ r ∈ rs, GoodR r) → rs.length ≤ i → Ev (fun q => recode_Mix.l1 q ps rs ps (ps.length : Int) (i : Int) a b c d h v s) (if (ps.drop i).all (alike (ps.getD 0 z38)) = true then endM a b c d (hopsOf h (ps.drop i)) (rs ++ (ps.drop i).map fun q => q.f5) else noM) := by
  have e0 : rd_T38 ps 0 = ps.getD 0 z38 := rfl
  induction e with
  | zero =>
    intro i rs h hi hr hl
    rw [List.drop_of_length_le (by omega)]
    simp only [List.all_nil, if_true, List.map_nil, List.append_nil, hopsOf, List.foldl_nil]
    have hu := rowV_ok rs [] hr U.nil (by simp)
    refine Ev.step (f := fun q => (xor_Row.f q rs).bind fun bt => (words_First.f q bt.1).bind fun t => (if t < 0 then (some (0, 0, 0, 0, 0, ([] : List Int), (⟨#[]⟩ : ByteArray), false)) else (if h ≥ 15 then (some (0, 0, 0, 0, 0, ([] : List Int), (⟨#[]⟩ : ByteArray), false)) else (some (a, b, c, d, wrap64 (h + 1), bt.1, bt.2, true))))) (fun q => ?_) (Ev.bind (Row hr (by omega)) (Ev.bind (First (l := rowV rs []) hu.1 (Nat.le_trans hu.2 (by decide))) ?_))
    · simp only [recode_Mix.l1]; rw [if_neg (by omega)]
    · unfold endM
      by_cases hv : val (rowV rs []) = 0
      · have := firstZ_neg.2 hv
        simp only [this, hv, if_true]; exact Ev.now _
      · have : ¬ firstZ (val (rowV rs [])) < 0 := fun t => hv (firstZ_neg.1 t)
        simp only [this, hv, if_false]
        split <;> exact Ev.now _
  | succ e ih =>
    intro i rs h hi hr hl
    have hlt : i < ps.length := by omega
    have eI : rd_T38 ps (i : Int) = ps.getD i z38 := by unfold rd_T38; rw [Int.toNat_natCast]
    have hgi : GoodP (ps.getD i z38) := hg _ (getD_mem _ hlt)
    rw [drop_getD z38 hlt]
    generalize ps.getD i z38 = p at eI hgi
    have h3 := ih (i + 1) (rs ++ [p.f5]) (mx h p.f4) (by omega) (fun r hr2 => by
      rcases List.mem_append.1 hr2 with t | t
      · exact hr r t
      · rw [List.mem_singleton] at t; subst t; exact hgi) (by simp; omega)
    by_cases ha : alike (ps.getD 0 z38) p = true
    · simp only [List.all_cons, ha, Bool.true_and, List.map_cons, hopsOf, List.foldl_cons]
      rw [List.append_assoc, List.singleton_append] at h3
      refine Ev.step (fun q => ?_) h3
      simp only [recode_Mix.l1, e0, eI, alike_p, Option.bind_some]
      rw [if_pos (by omega), if_pos (by omega), if_pos (by omega), if_pos (by omega)]
      unfold alike at ha
      rw [if_pos ha, if_pos (by omega), w64 (by omega) (by omega), show (i : Int) + 1 = ((i + 1 : Nat) : Int) by omega]
    · simp only [List.all_cons, ha, Bool.false_and, Bool.false_eq_true, if_false]
      refine Ev.step (f := fun _ => some noM) (fun q => ?_) (Ev.now _)
      simp only [recode_Mix.l1, e0, eI, alike_p, Option.bind_some]
      rw [if_pos (by omega), if_pos (by omega), if_pos (by omega), if_pos (by omega)]
      unfold alike at ha
      rw [if_neg ha]; rfl
theorem Mix_l0 {l : List SP} {w : List Int} (hg : ∀ p ∈ l, GoodP p) (hn : l.length ≤ 1000000) (hw : w.length ≤ 1000) (e : Nat) : ∀ (i : Nat) (acc : List SP), i + e = w.length → (∀ p ∈ acc, GoodP p) → acc.length ≤ i → Ev (fun q => recode_Mix.l0 q l acc w (w.length : Int) (i : Int)) (mixR (acc ++ pickP l (w.drop i))) := by
  induction e with
  | zero =>
    intro i acc hi ha hl
    rw [List.drop_of_length_le (by omega), pickP, List.append_nil]
    match acc, ha, hl with
    | [], _, _ =>
      refine Ev.step (f := fun _ => some noM) (fun q => ?_) (Ev.now _)
      simp only [recode_Mix.l0]; rw [if_neg (by omega)]; rfl
    | p :: t, ha, hl =>
      have := Mix_l1 ha (by omega) (by simp) p.f0 p.f1 p.f2 p.f3 p.f5.f0 p.f5.f1 (p :: t).length 0 [] p.f4 (by omega) (fun _ h => by cases h) (by simp)
      refine Ev.step (fun q => ?_) this
      simp only [recode_Mix.l0]
      rw [if_neg (by omega), if_neg (by simp; omega), if_pos (by simp)]
      rfl
  | succ e ih =>
    intro i acc hi ha hl
    have hlt : i < w.length := by omega
    rw [drop_cons hlt, pickP]
    have hsucc : (i : Int) + 1 = ((i + 1 : Nat) : Int) := by omega
    have step : ∀ acc2 : List SP, (recode_Mix.l0 · l acc2 w (w.length : Int) (wrap64 ((i : Int) + 1))) = (recode_Mix.l0 · l acc2 w (w.length : Int) ((i + 1 : Nat) : Int)) := fun acc2 => by rw [w64 (by omega) (by omega), hsucc]
    by_cases h : 0 ≤ w.getD i 0 ∧ w.getD i 0 < l.length
    · rw [if_pos h]
      have h3 := ih (i + 1) (acc ++ [l.getD (w.getD i 0).toNat z38]) (by omega) (fun r hr => by
        rcases List.mem_append.1 hr with hr | hr
        · exact ha r hr
        · rw [List.mem_singleton] at hr; subst hr; exact hg _ (getD_mem _ (by omega))) (by simp; omega)
      rw [List.append_assoc, List.singleton_append] at h3
      refine Ev.step (fun q => ?_) h3
      simp only [recode_Mix.l0]
      rw [if_pos (by omega), if_pos (by omega), if_pos (by omega), rd_nat, if_pos h.1, if_pos h.2, if_pos h.1, if_pos (by omega)]
      exact congrFun (step _) q
    · rw [if_neg h]
      refine Ev.step (fun q => ?_) (ih (i + 1) acc (by omega) ha (by omega))
      simp only [recode_Mix.l0]
      rw [if_pos (by omega), if_pos (by omega), if_pos (by omega), rd_nat]
      by_cases h1 : w.getD i 0 ≥ 0
      · rw [if_pos h1, if_neg (fun h2 => h ⟨h1, h2⟩)]
        exact congrFun (step _) q
      · rw [if_neg h1]
        exact congrFun (step _) q
theorem Mix {l : List SP} {w : List Int} (hg : ∀ p ∈ l, GoodP p) (hn : l.length ≤ 1000000) (hw : w.length ≤ 1000) : Ev (fun q => recode_Mix.f q l w) (mixR (pickP l w)) :=
  Mix_l0 hg hn hw w.length 0 [] (by omega) (fun _ h => by cases h) (by simp)
/-- The state of the reference's loop behind the picks 'acc'. -/
structure StM (acc : List SP) (x7 : Bool) (a b c d h : Int) : Prop where
  none : acc = [] → x7 = false ∧ a = 0 ∧ b = 0 ∧ c = 0 ∧ d = 0 ∧ h = 0
  some : ∀ p t, acc = p :: t → x7 = true ∧ a = p.f0 ∧ b = p.f1 ∧ c = p.f2 ∧ d = p.f3 ∧ h = hopsOf p.f4 acc ∧ acc.all (alike p) = true
end Go.Proofs.YtlpcphndgjibpaaDoor.S
