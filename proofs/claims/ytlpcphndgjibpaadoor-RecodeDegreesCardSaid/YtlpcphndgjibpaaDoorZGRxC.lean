/- A state that tells less: names of blocks changed, what is not needed left out. No program's text. No condition. -/
import Derived.Test.YtlpcphndgjibpaaDoorZGRxB
namespace Go.Proofs.YtlpcphndgjibpaaDoor.Rx
open Go
def renR (σ : Ren) (ρ : Rho) : Rho := fun i => match nth σ i with
  | some (some b) => (match ρ b with | .free => .virt | s => s)
  | some none => .virt
  | none => .free
def renS (σ : Ren) (ρ : Rho) (ar : Ar) (S : Stab) : Stab := fun k o => S k o ∨ ∃ b L e sz f wr st, ar b = .vec L e sz f wr st ∧ ρ b = .at k ∧ o < L * sz ∧ ∀ i, nth σ i ≠ some (some b)
section
variable {σ : Ren} {Γ : Ctx} {w : World} {S : Stab} {ρ : Rho} {ar ar' : Ar} {n np : Nat}
theorem DLe.rel : ∀ {x y : DV} {u : Value}, DLe x y → RelD w S x u → RelD w S y u
  | .sl l sz f, .sl l' sz' g, u, h, hx => by
    obtain ⟨rfl, rfl, h⟩ := h
    obtain ⟨a, cap, rfl, h1, h2, h3⟩ := hx
    refine ⟨a, cap, rfl, h1, h2, fun h0 => ?_⟩
    obtain ⟨k, o, rfl, h4⟩ := h3 h0
    refine ⟨k, o, rfl, fun i hi j hj => ?_⟩
    obtain ⟨h5, c, h6, h7⟩ := h4 i hi j hj
    exact ⟨h5, c, h6, DLe.rel (h i hi j hj) h7⟩
  | .sc v, .sl l sz g, u, h, hx => by
    obtain ⟨rfl, rfl⟩ := h
    unfold RelD at hx ⊢
    exact ⟨none, 0, hx.1, Nat.le_refl _, trivial, fun h0 => absurd h0 (Nat.lt_irrefl 0)⟩
  | .sc v, .sc v', u, h, hx => by
    have e : v = v' := h
    subst e; exact hx
  | .sl _ _ _, .sc _, u, h, _ => h.elim
theorem RelD.ext_dl {len sz : Nat} {f g : Nat → Nat → DV} {u : Value} (h : RelD w S (.sl len sz f) u) (hfg : ∀ i, i < len → ∀ j, j < sz → DLe (f i j) (g i j)) : RelD w S (.sl len sz g) u := DLe.rel (x := .sl len sz f) (show DLe (.sl len sz f) (.sl len sz g) from ⟨rfl, rfl, hfg⟩) h
theorem renR_some {i b : Nat} (h : nth σ i = some (some b)) (hf : ρ b ≠ .free) : renR σ ρ i = ρ b := by
  unfold renR
  rw [h]
  dsimp only
  cases hb : ρ b with
  | free => exact absurd hb hf
  | _ => rfl
theorem ren_mono (x : DV) (u : Value) (h : RelD w S x u) : RelD w (renS σ ρ ar S) x u := RelD.mono (fun _ _ _ => rfl) (fun _ _ h => .inl h) x u h
/-- A slice of ours that is handed on, and its name with it. -/
theorem ren_frozen (h : Ok Γ w S ρ ar) {b len L e sz : Nat} {f : Nat → Nat → DV} {wr st : Bool} (hb : ar b = .vec L e sz f wr st) (hn : ∀ i, nth σ i ≠ some (some b)) {u : Value} (hu : RelC w S ρ ar (.own b len) u) :
    RelD w (renS σ ρ ar S) (.sl len sz f) u := by
  have hB := h.blk b
  unfold RelB at hB
  rw [hb] at hB
  dsimp only at hB
  simp only [RelC, hb] at hu
  obtain ⟨_, hnf, hl, hu⟩ := hu
  unfold RelD
  cases hs : ρ b with
  | free => exact absurd hs hnf
  | virt =>
    rw [hs] at hu hB
    obtain ⟨rfl, hL⟩ := hu
    have : len = 0 := by have := hB.1; omega
    subst this
    exact ⟨none, 0, rfl, Nat.le_refl _, trivial, fun h0 => absurd h0 (Nat.lt_irrefl 0)⟩
  | «at» k =>
    rw [hs] at hu hB
    obtain ⟨cap, cur, fr, rfl, hc1, hc2, hc3, hc4⟩ := hu
    obtain ⟨cap', cur', fr', k1, k2, k3, k4, k5, k6, k7, k8⟩ := hB
    refine ⟨_, cap, rfl, by omega, trivial, fun _ => ⟨k, 0, rfl, fun i hi j hj => ⟨.inr ⟨b, L, e, sz, f, wr, st, hb, hs, ?_, hn⟩, ?_⟩⟩⟩
    · have : (i + 1) * sz ≤ L * sz := Nat.mul_le_mul_right _ (by omega)
      rw [Nat.add_mul] at this
      omega
    · obtain ⟨c, hc, hd⟩ := k7 i (by omega) j hj
      refine ⟨c, ?_, ren_mono _ _ hd⟩
      rw [Nat.zero_add, cell_of_row w k _ cur' e fr' k1]; exact hc
mutual
theorem CLe.rel (h : Ok Γ w S ρ ar) (hr : RenOk σ ar ar' n np) : ∀ (x y : CV) (u : Value), CLe σ ar x y → RelC w S ρ ar x u → RelC w (renS σ ρ ar S) (renR σ ρ) ar' y u
  | x, .junk, u, _, _ => by unfold RelC; trivial
  | .d x, .own b len, u, hl, hx => by
    simp only [CLe] at hl
    obtain ⟨rfl, h1, rfl⟩ := hl
    have hu : u = .slice none 0 0 := by unfold RelC nilDV RelD at hx; exact hx.1
    have hlt : b < σ.length := by
      rw [nth_eq] at h1; exact (List.getElem?_eq_some_iff.1 h1).1
    have hB := hr.blk b hlt _ h1
    subst hu
    simp only [RelC, renR, h1]
    refine ⟨rfl, by simp, ?_⟩
    cases hb : ar' b with
    | dead => trivial
    | box cs => trivial
    | vec L e sz f wr st =>
      rw [hb] at hB
      exact ⟨Nat.zero_le _, trivial, hB.1⟩
  | .d x, .d y, u, hl, hx => by
    have hl' : DLe x y := by
      unfold CLe at hl
      exact hl
    unfold RelC at hx ⊢
    exact DLe.rel hl' (ren_mono _ _ hx)
  | .own b len, .own b' len', u, hl, hx => by
    simp only [CLe] at hl
    obtain ⟨h1, rfl⟩ := hl
    have hx' := hx
    simp only [RelC] at hx ⊢
    obtain ⟨h2, h3, h4⟩ := hx
    rw [renR_some h1 h3]
    refine ⟨h2, h3, ?_⟩
    have hlt : b' < σ.length := by rw [nth_eq] at h1; exact (List.getElem?_eq_some_iff.1 h1).1
    have hB := hr.blk b' hlt _ h1
    cases hb : ar' b' with
    | dead => trivial
    | box cs => trivial
    | vec L e sz f wr st =>
      rw [hb] at hB
      simp only [BLe] at hB
      cases ha : ar b with
      | dead => rw [ha] at hB; exact hB.elim
      | box cs => rw [ha] at hB; exact hB.elim
      | vec L0 e0 sz0 f0 wr0 st0 =>
        rw [ha] at hB h4
        obtain ⟨rfl, rfl, rfl, rfl, _, _⟩ := hB
        exact h4
  | .own b len, .d (.sl l sz g), u, hl, hx => by
    simp only [CLe] at hl
    obtain ⟨h1, h2⟩ := hl
    cases ha : ar b with
    | dead => rw [ha] at h2; exact h2.elim
    | box cs => rw [ha] at h2; exact h2.elim
    | vec L0 e0 sz0 f0 wr0 st0 =>
      rw [ha] at h2
      obtain ⟨rfl, rfl, h3⟩ := h2
      unfold RelC
      exact RelD.ext_dl (ren_frozen h ha h1 hx) h3
  | .ptr b j, .ptr b' j', u, hl, hx => by
    simp only [CLe] at hl
    obtain ⟨h1, rfl⟩ := hl
    simp only [RelC] at hx ⊢
    obtain ⟨h2, h3, h4⟩ := hx
    rw [renR_some h1 h3]
    refine ⟨h2, h3, ?_⟩
    have hlt : b' < σ.length := by rw [nth_eq] at h1; exact (List.getElem?_eq_some_iff.1 h1).1
    have hB := hr.blk b' hlt _ h1
    cases hb : ar' b' with
    | dead => trivial
    | vec L e sz f wr st => trivial
    | box cs =>
      rw [hb] at hB
      simp only [BLe] at hB
      cases ha : ar b with
      | dead => rw [ha] at hB; exact hB.elim
      | vec L0 e0 sz0 f0 wr0 st0 => rw [ha] at hB; exact hB.elim
      | box cs0 =>
        rw [ha] at h4
        exact h4
  | .vptr b i j, .vptr b' i' j', u, hl, hx => by
    simp only [CLe] at hl
    obtain ⟨h1, rfl, rfl⟩ := hl
    simp only [RelC] at hx ⊢
    obtain ⟨h2, h3, h4⟩ := hx
    rw [renR_some h1 h3]
    refine ⟨h2, h3, ?_⟩
    have hlt : b' < σ.length := by rw [nth_eq] at h1; exact (List.getElem?_eq_some_iff.1 h1).1
    have hB := hr.blk b' hlt _ h1
    cases hb : ar' b' with
    | dead => trivial
    | box cs => trivial
    | vec L e sz f wr st =>
      rw [hb] at hB
      simp only [BLe] at hB
      cases ha : ar b with
      | dead => rw [ha] at hB; exact hB.elim
      | box cs => rw [ha] at hB; exact hB.elim
      | vec L0 e0 sz0 f0 wr0 st0 =>
        rw [ha] at hB h4
        obtain ⟨rfl, rfl, rfl, rfl, _, _⟩ := hB
        exact h4
  | .iptr n f, .iptr m g, u, hl, hx => by
    simp only [CLe] at hl
    obtain ⟨h1, h2⟩ := hl
    simp only [RelC] at hx ⊢
    obtain ⟨k, o, rfl, h3⟩ := hx
    refine ⟨k, o, rfl, fun j hj => ?_⟩
    obtain ⟨h4, c, h5, h6⟩ := h3 j (by omega)
    exact ⟨.inl h4, c, h5, by rw [← h2 j hj]; exact ren_mono _ _ h6⟩
  | .clo f cs, .clo g ds, u, hl, hx => by
    simp only [CLe] at hl
    obtain ⟨rfl, h2⟩ := hl
    simp only [RelC] at hx ⊢
    obtain ⟨vs, rfl, h3⟩ := hx
    exact ⟨vs, rfl, CsLe.rel h hr cs ds vs h2 h3⟩
  | .d _, .ptr _ _, u, hl, _ => by simp [CLe] at hl
  | .d _, .vptr _ _ _, u, hl, _ => by simp [CLe] at hl
  | .d _, .iptr _ _, u, hl, _ => by simp [CLe] at hl
  | .d _, .clo _ _, u, hl, _ => by simp [CLe] at hl
  | .own _ _, .d (.sc _), u, hl, _ => by simp [CLe] at hl
  | .own _ _, .ptr _ _, u, hl, _ => by simp [CLe] at hl
  | .own _ _, .vptr _ _ _, u, hl, _ => by simp [CLe] at hl
  | .own _ _, .iptr _ _, u, hl, _ => by simp [CLe] at hl
  | .own _ _, .clo _ _, u, hl, _ => by simp [CLe] at hl
  | .ptr _ _, .d _, u, hl, _ => by simp [CLe] at hl
  | .ptr _ _, .own _ _, u, hl, _ => by simp [CLe] at hl
  | .ptr _ _, .vptr _ _ _, u, hl, _ => by simp [CLe] at hl
  | .ptr _ _, .iptr _ _, u, hl, _ => by simp [CLe] at hl
  | .ptr _ _, .clo _ _, u, hl, _ => by simp [CLe] at hl
  | .vptr _ _ _, .d _, u, hl, _ => by simp [CLe] at hl
  | .vptr _ _ _, .own _ _, u, hl, _ => by simp [CLe] at hl
  | .vptr _ _ _, .ptr _ _, u, hl, _ => by simp [CLe] at hl
  | .vptr _ _ _, .iptr _ _, u, hl, _ => by simp [CLe] at hl
  | .vptr _ _ _, .clo _ _, u, hl, _ => by simp [CLe] at hl
  | .iptr _ _, .d _, u, hl, _ => by simp [CLe] at hl
  | .iptr _ _, .own _ _, u, hl, _ => by simp [CLe] at hl
  | .iptr _ _, .ptr _ _, u, hl, _ => by simp [CLe] at hl
  | .iptr _ _, .vptr _ _ _, u, hl, _ => by simp [CLe] at hl
  | .iptr _ _, .clo _ _, u, hl, _ => by simp [CLe] at hl
  | .clo _ _, .d _, u, hl, _ => by simp [CLe] at hl
  | .clo _ _, .own _ _, u, hl, _ => by simp [CLe] at hl
  | .clo _ _, .ptr _ _, u, hl, _ => by simp [CLe] at hl
  | .clo _ _, .vptr _ _ _, u, hl, _ => by simp [CLe] at hl
  | .clo _ _, .iptr _ _, u, hl, _ => by simp [CLe] at hl
  | .junk, .d _, u, hl, _ => by simp [CLe] at hl
  | .junk, .own _ _, u, hl, _ => by simp [CLe] at hl
  | .junk, .ptr _ _, u, hl, _ => by simp [CLe] at hl
  | .junk, .vptr _ _ _, u, hl, _ => by simp [CLe] at hl
  | .junk, .iptr _ _, u, hl, _ => by simp [CLe] at hl
  | .junk, .clo _ _, u, hl, _ => by simp [CLe] at hl
theorem CsLe.rel (h : Ok Γ w S ρ ar) (hr : RenOk σ ar ar' n np) : ∀ (xs ys : List CV) (us : List Value), CsLe σ ar xs ys → RelCs w S ρ ar xs us → RelCs w (renS σ ρ ar S) (renR σ ρ) ar' ys us
  | [], [], us, _, hx => by
    cases us with
    | nil => simp only [RelCs]
    | cons _ _ => simp [RelCs] at hx
  | x :: r, y :: s, us, hl, hx => by
    cases us with
    | nil => simp [RelCs] at hx
    | cons u us =>
      simp only [CsLe] at hl
      simp only [RelCs] at hx ⊢
      exact ⟨CLe.rel h hr x y u hl.1 hx.1, CsLe.rel h hr r s us hl.2 hx.2⟩
  | [], _ :: _, us, hl, _ => by simp [CsLe] at hl
  | _ :: _, [], us, hl, _ => by simp [CsLe] at hl
end
mutual
theorem TLe.rel (h : Ok Γ w S ρ ar) (hr : RenOk σ ar ar' n np) : ∀ (x y : TV) (u : Value), TLe σ ar x y → RelT w S ρ ar x u → RelT w (renS σ ρ ar S) (renR σ ρ) ar' y u
  | x, .c .junk, u, _, _ => by unfold RelT RelC; trivial
  | .c x, .c y, u, hl, hx => by
    have hl' : CLe σ ar x y := by
      cases y with
      | junk => unfold CLe; trivial
      | _ => simpa only [TLe] using hl
    simp only [RelT] at hx ⊢
    exact CLe.rel h hr x y u hl' hx
  | .agg xs, .agg ys, u, hl, hx => by
    simp only [TLe] at hl
    simp only [RelT] at hx ⊢
    obtain ⟨vs, rfl, h1⟩ := hx
    exact ⟨vs, rfl, CsLe.rel h hr xs ys vs hl h1⟩
  | .tup xs, .tup ys, u, hl, hx => by
    simp only [TLe] at hl
    simp only [RelT] at hx ⊢
    obtain ⟨vs, rfl, h1⟩ := hx
    exact ⟨vs, rfl, TsLe.rel h hr xs ys vs hl h1⟩
  | .c _, .agg _, u, hl, _ => by simp [TLe] at hl
  | .c _, .tup _, u, hl, _ => by simp [TLe] at hl
  | .agg _, .c y, u, hl, _ => by cases y with | junk => (unfold RelT RelC; trivial) | _ => simp [TLe] at hl
  | .agg _, .tup _, u, hl, _ => by simp [TLe] at hl
  | .tup _, .c y, u, hl, _ => by cases y with | junk => (unfold RelT RelC; trivial) | _ => simp [TLe] at hl
  | .tup _, .agg _, u, hl, _ => by simp [TLe] at hl
theorem TsLe.rel (h : Ok Γ w S ρ ar) (hr : RenOk σ ar ar' n np) : ∀ (xs ys : List TV) (us : List Value), TsLe σ ar xs ys → RelTs w S ρ ar xs us → RelTs w (renS σ ρ ar S) (renR σ ρ) ar' ys us
  | [], [], us, _, hx => by
    cases us with
    | nil => simp only [RelTs]
    | cons _ _ => simp [RelTs] at hx
  | x :: r, y :: s, us, hl, hx => by
    cases us with
    | nil => simp [RelTs] at hx
    | cons u us =>
      simp only [TsLe] at hl
      simp only [RelTs] at hx ⊢
      exact ⟨TLe.rel h hr x y u hl.1 hx.1, TsLe.rel h hr r s us hl.2 hx.2⟩
  | [], _ :: _, us, hl, _ => by simp [TsLe] at hl
  | _ :: _, [], us, hl, _ => by simp [TsLe] at hl
end
/-- The memory under its new names. -/
theorem Ok.ren (h : Ok Γ w S ρ ar) (hr : RenOk σ ar ar' n np) (hnp : ∀ b, Γ.ρ0 b ≠ .free → b < np) : Ok Γ w (renS σ ρ ar S) (renR σ ρ) ar' ∧ Ids (renR σ ρ) σ.length := by
  have hids : Ids (renR σ ρ) σ.length := by
    intro b hb
    unfold renR at hb
    rcases Nat.lt_or_ge b σ.length with hlt | hge
    · exact hlt
    · rw [nth_eq, List.getElem?_eq_none hge] at hb
      exact absurd rfl hb
  have atR : ∀ i k, renR σ ρ i = .at k → ∃ b, nth σ i = some (some b) ∧ ρ b = .at k := by
    intro i k hi
    unfold renR at hi
    split at hi
    · rename_i b hb
      refine ⟨b, hb, ?_⟩
      cases hs : ρ b with
      | free => rw [hs] at hi; cases hi
      | virt => rw [hs] at hi; cases hi
      | «at» k' => rw [hs] at hi; exact hi
    · cases hi
    · cases hi
  have newS : ∀ k o, renS σ ρ ar S k o → S k o ∨ ∃ b, ρ b = .at k ∧ ∀ i, nth σ i ≠ some (some b) := by
    rintro k o (ho | ⟨b, L, e, sz, f, wr, st, h1, h2, h3, h4⟩)
    · exact .inl ho
    · exact .inr ⟨b, h2, h4⟩
  have dropS : ∀ k o i b, nth σ i = some (some b) → ρ b = .at k → renS σ ρ ar S k o → S k o := by
    intro k o i b hi hb ho
    rcases newS k o ho with h1 | ⟨b', h1, h2⟩
    · exact h1
    · have := h.inj _ _ _ hb h1
      subst this
      exact absurd hi (h2 i)
  refine ⟨⟨fun i => ?_, fun i j k hi hj => ?_, fun i k hi => ?_, h.os, h.tape, h.output, h.size, h.block, h.cells, fun k o ho => .inl (h.sub k o ho), fun k o ho => ?_, fun k o ho => ?_, fun i hi => ?_, fun b hb => ?_, fun b hb hd => ?_, fun b k L e sz f wr st hb hx cur fr hc => ?_⟩, hids⟩
  · unfold RelB
    cases hb : ar' i with
    | dead => trivial
    | box ds =>
      have hlt : i < σ.length := by
        rcases Nat.lt_or_ge i σ.length with hlt | hge
        · exact hlt
        · rw [hr.out i hge] at hb; cases hb
      obtain ⟨o, ho⟩ : ∃ o, nth σ i = some o := ⟨σ[i], by rw [nth_eq]; exact List.getElem?_eq_getElem hlt⟩
      have hB := hr.blk i hlt o ho
      rw [hb] at hB
      cases o with
      | none => exact hB.elim
      | some b =>
        simp only [BLe] at hB
        cases ha : ar b with
        | dead => rw [ha] at hB; exact hB.elim
        | vec _ _ _ _ _ _ => rw [ha] at hB; exact hB.elim
        | box cs =>
          rw [ha] at hB
          have hO := h.blk b
          unfold RelB at hO
          rw [ha] at hO
          obtain ⟨k, cur, t, fr, h1, h2, h3, h4, h5⟩ := hO
          refine ⟨k, cur, t, fr, by rw [renR_some ho (by rw [h1]; intro e; cases e)]; exact h1, h2, h3, CsLe.rel h hr cs ds _ hB h4, fun o' ho' => h5 o' (dropS k o' i b ho h1 ho')⟩
    | vec L e sz g wr st =>
      have hlt : i < σ.length := by
        rcases Nat.lt_or_ge i σ.length with hlt | hge
        · exact hlt
        · rw [hr.out i hge] at hb; cases hb
      obtain ⟨o, ho⟩ : ∃ o, nth σ i = some o := ⟨σ[i], by rw [nth_eq]; exact List.getElem?_eq_getElem hlt⟩
      have hB := hr.blk i hlt o ho
      rw [hb] at hB
      cases o with
      | none =>
        dsimp only
        have : renR σ ρ i = .virt := by unfold renR; rw [ho]
        rw [this]
        exact hB
      | some b =>
        simp only [BLe] at hB
        cases ha : ar b with
        | dead => rw [ha] at hB; exact hB.elim
        | box cs => rw [ha] at hB; exact hB.elim
        | vec L0 e0 sz0 f0 wr0 st0 =>
          rw [ha] at hB
          obtain ⟨rfl, rfl, rfl, rfl, hw, hf⟩ := hB
          have hO := h.blk b
          unfold RelB at hO
          rw [ha] at hO
          dsimp only at hO ⊢
          cases hs : ρ b with
          | free => rw [hs] at hO; exact hO.elim
          | virt =>
            rw [hs] at hO
            rw [renR_some ho (by rw [hs]; intro e; cases e), hs]
            exact hO
          | «at» k =>
            rw [hs] at hO
            rw [renR_some ho (by rw [hs]; intro e; cases e), hs]
            obtain ⟨cap, cur, fr, k1, k2, k3, k4, k5, k6, k7, k8⟩ := hO
            refine ⟨cap, cur, fr, k1, k2, k3, k4, k5, k6, fun a ha' j hj => ?_, fun o' ho' => ?_⟩
            · obtain ⟨c, hc, hd⟩ := k7 a ha' j hj
              exact ⟨c, hc, DLe.rel (hf a ha' j hj) (ren_mono _ _ hd)⟩
            · obtain ⟨m1, m2⟩ := k8 o' (dropS k o' i b ho hs ho')
              refine ⟨?_, m2⟩
              cases hwr : wr with
              | false => rfl
              | true => rw [hw hwr] at m1; cases m1
  · obtain ⟨b, h1, h2⟩ := atR i k hi
    obtain ⟨b', h3, h4⟩ := atR j k hj
    have := h.inj _ _ _ h2 h4
    subst this
    exact hr.inj _ _ _ h1 h3
  · obtain ⟨b, h1, h2⟩ := atR i k hi
    exact h.own b k h2
  · rcases newS k o ho with h1 | ⟨b, h1, _⟩
    · exact h.new k o h1
    · exact .inr (h.own b k h1).2.2
  · rcases newS k o ho with h1 | ⟨b, h1, _⟩
    · exact h.lt k o h1
    · exact (h.own b k h1).2.1
  · unfold renR at hi
    split at hi
    · rename_i b hb
      cases hs : ρ b <;> rw [hs] at hi <;> cases hi
    · cases hi
    · rename_i hnone
      rw [nth_eq] at hnone
      exact hr.out i (by simpa using hnone)
  · have := hr.par b (hnp b hb)
    unfold renR
    rw [this]
    dsimp only
    cases hs : ρ b with
    | free => intro e; cases e
    | virt => intro e; cases e
    | «at» k => intro e; cases e
  · have hp := hr.par b (hnp b hb)
    have hu := h.used0 b hb
    rw [renR_some hp hu]
    refine h.keep b hb ?_
    intro hdead
    have hlt : b < σ.length := by rw [nth_eq] at hp; exact (List.getElem?_eq_some_iff.1 hp).1
    have hB := hr.blk b hlt _ hp
    cases hx : ar' b with
    | dead => exact hd hx
    | box ds => rw [hx] at hB; simp only [BLe, hdead] at hB
    | vec _ _ _ _ _ _ => rw [hx] at hB; simp only [BLe, hdead] at hB
  · have hp := hr.par b (hnp b (by rw [hb]; intro e; cases e))
    have hlt : b < σ.length := by rw [nth_eq] at hp; exact (List.getElem?_eq_some_iff.1 hp).1
    have hB := hr.blk b hlt _ hp
    rw [hx] at hB
    simp only [BLe] at hB
    cases ha : ar b with
    | dead => rw [ha] at hB; exact hB.elim
    | box _ => rw [ha] at hB; exact hB.elim
    | vec L0 e0 sz0 f0 wr0 st0 =>
      rw [ha] at hB
      obtain ⟨rfl, rfl, rfl, rfl, _, _⟩ := hB
      exact h.vsz b k _ _ _ _ _ _ hb ha cur fr hc
end
end Go.Proofs.YtlpcphndgjibpaaDoor.Rx
/- A function's contract, what it takes to show one, and what a call makes of it. No program's text. No condition. -/
namespace Go.Proofs.YtlpcphndgjibpaaDoor.Rx
open Go
/-- A contract: with these blocks and arguments the function comes to this, and to these blocks. -/
def AC (P : Program) (N : Nat) (G : World → Prop) (f : FuncId) (A : List Blk) (args : List TV) (R : List Blk) (res : TV) : Prop :=
  (∃ fn, P.funcs[f]? = some fn ∧ fn.body.isSome = true ∧ (fn.name == "runtime.NumGoroutine") = false) ∧
  ∀ (Γ : Ctx) (vs : List Value), Γ.N = N → Γ.G = G → Ok Γ Γ.w0 Γ.S0 Γ.ρ0 (arOf A) → Ids Γ.ρ0 A.length → RelTs Γ.w0 Γ.S0 Γ.ρ0 (arOf A) args vs →
    Calls P f vs.toArray Γ.w0 fun e w' => ∃ v S' ρ', e = .returned v ∧ Ok Γ w' S' ρ' (arOf R) ∧ Ids ρ' R.length ∧ RelT w' S' ρ' (arOf R) res v
def renB (σ : Ren) (n np : Nat) : Bool :=
  (List.range σ.length).all (fun i => match nth σ i with
    | some (some b) => Nat.blt b n && (List.range σ.length).all (fun j => match nth σ j with | some (some b') => !(Nat.beq b b') || Nat.beq i j | _ => true)
    | _ => true) && (List.range np).all (fun i => match nth σ i with | some (some b) => Nat.beq b i | _ => false)
def BsLe (σ : Ren) (ar : Ar) : Ren → List Blk → Prop
  | [], [] => True
  | o :: r, B :: s => BLe σ ar o B ∧ BsLe σ ar r s
  | _, _ => False
theorem BsLe.len {σ : Ren} {ar : Ar} : ∀ {r : Ren} {s : List Blk}, BsLe σ ar r s → r.length = s.length
  | [], [], _ => rfl
  | _ :: r, _ :: s, h => by simp only [BsLe] at h; simp [BsLe.len h.2]
  | [], _ :: _, h => by simp [BsLe] at h
  | _ :: _, [], h => by simp [BsLe] at h
theorem BsLe.at {σ : Ren} {ar : Ar} : ∀ {r : Ren} {s : List Blk} {i : Nat} {o : Option Nat}, BsLe σ ar r s → nth r i = some o → BLe σ ar o (arOf s i)
  | [], _, _, _, _, h => by simp [nth] at h
  | o :: r, [], _, _, h, _ => by simp [BsLe] at h
  | o :: r, B :: s, 0, q, h, hn => by
    simp only [nth, Option.some.injEq] at hn; subst hn
    simp only [BsLe] at h
    exact h.1
  | o :: r, B :: s, i + 1, q, h, hn => by
    simp only [BsLe] at h
    simp only [nth] at hn
    have := BsLe.at h.2 hn
    simpa [arOf, nth] using this
theorem arOf_out (l : List Blk) (i : Nat) (h : l.length ≤ i) : arOf l i = .dead := by
  unfold arOf
  rw [nth_eq, List.getElem?_eq_none h]
theorem renOk_of {σ : Ren} {ar : Ar} {R : List Blk} {n np : Nat} (hb : renB σ n np = true) (hs : BsLe σ ar σ R) : RenOk σ ar (arOf R) n np := by
  unfold renB at hb
  simp only [Bool.and_eq_true, List.all_eq_true, List.mem_range] at hb
  obtain ⟨h1, h2⟩ := hb
  have hlt : ∀ {i : Nat} {o : Option Nat}, nth σ i = some o → i < σ.length := fun h => by rw [nth_eq] at h; exact (List.getElem?_eq_some_iff.1 h).1
  refine ⟨fun i j b hi hj => ?_, fun i b hi => ?_, fun i hi => ?_, fun i hi o ho => hs.at ho, fun i hi => arOf_out R i (by rw [← hs.len]; exact hi)⟩
  · have := h1 i (hlt hi)
    rw [hi] at this
    simp only [Bool.and_eq_true, List.all_eq_true, List.mem_range] at this
    have := this.2 j (hlt hj)
    rw [hj] at this
    simpa using this
  · have := h1 i (hlt hi)
    rw [hi] at this
    simp only [Bool.and_eq_true] at this
    simpa using this.1
  · have := h2 i hi
    split at this
    · rename_i b hb
      rw [hb]
      have := Nat.eq_of_beq_eq_true this
      rw [this]
    · cases this
theorem exp_of (σ : Ren) {ar : Ar} {nb np : Nat} {x : TV} {R : List Blk} {res : TV} (hb : renB σ nb np = true) (hs : BsLe σ ar σ R) (hx : TLe σ ar x res) : Exp ar nb np x R res :=
  ⟨σ, hs.len, renOk_of hb hs, hx⟩
def EsLe (σ : Ren) (s : St) : List (Nat × TV) → Prop
  | [] => True
  | (t, v) :: r => TLe σ s.ar (s.env t) v ∧ EsLe σ s r
theorem EsLe.at {σ : Ren} {s : St} : ∀ {L : List (Nat × TV)}, EsLe σ s L → ∀ t, TLe σ s.ar (s.env t) (envL L t)
  | [], _, t => by unfold envL TLe; trivial
  | (k, v) :: r, h, t => by
    simp only [EsLe] at h
    unfold envL
    cases hk : Nat.beq t k with
    | true =>
      have := Nat.eq_of_beq_eq_true hk
      subst this
      exact h.1
    | false => exact EsLe.at h.2 t
/-- A state told by what is needed of it. -/
theorem sub_of (σ : Ren) (s : St) (L : List (Nat × TV)) (M : List Blk) (hb : renB σ s.nb s.np = true) (hs : BsLe σ s.ar σ M) (he : EsLe σ s L) : Sub s ⟨envL L, arOf M, M.length, s.nt, s.np⟩ := by
  refine ⟨rfl, fun Γ w S ρ a h hi => ?_⟩
  have hr := renOk_of hb hs
  obtain ⟨h1, h2⟩ := h.ok.ren hr h.np
  refine ⟨_, _, ⟨h1, fun t => TLe.rel h.ok hr _ _ _ (he.at t) (h.env t), h.nt, h.defers, h.np⟩, ?_⟩
  rw [← hs.len]; exact h2
section
variable {P : Program} {tt : TT} {N : Nat} {G : World → Prop} {call : CallT}
theorem doLoad_pre {ar : Ar} {t : Nat} {x v : TV} {pre : Prop} {ar' : Ar} (hl : doLoad tt ar t x = .one pre v ar') : pre := by
  unfold doLoad at hl
  split at hl
  · cases hl
  · split at hl
    · split at hl
      · split at hl
        · injection hl with e1 e2 e3; subst e1; trivial
        · cases hl
      · cases hl
    · split at hl
      · cases hc : Nat.ble _ _ <;> rw [hc] at hl
        · cases hl
        · injection hl with e1 e2 e3; subst e1; trivial
      · cases hl
    · cases hc : Nat.ble _ _ <;> rw [hc] at hl
      · cases hl
      · injection hl with e1 e2 e3; subst e1; trivial
    · cases hl
def resRun (a : Act) : ResultVar → Sem Value
  | .tmp t => pure (a.tmps.getD t undef)
  | .cell p t => do loadVar t (← asAddr (a.tmps.getD p undef))
theorem results_eq (fn : Func) (a : Act) : results fn a.tmps = (do
    let vs ← fn.results.mapM (resRun a)
    pure (if h : vs.size = 1 then vs[0] else .tuple vs)) := by
  unfold results
  congr 2
theorem resL_ok (hT : TTok P tt) {Γ : Ctx} {w : World} {S : Stab} {ρ : Rho} {s : St} {a : Act} (h : RelS Γ w S ρ s a) : ∀ (rs : List ResultVar) (l : List TV), resL tt s rs = some l →
    ∃ us : List Value, (rs.mapM (resRun a)).run P w = .ok us w ∧ RelTs w S ρ s.ar l us
  | [], l, hl => by
    simp only [resL, Option.some.injEq] at hl; subst hl
    exact ⟨[], by simp, by simp only [RelTs]⟩
  | .tmp t :: r, l, hl => by
    simp only [resL] at hl
    cases hr : resL tt s r with
    | none => rw [hr] at hl; cases hl
    | some l' =>
      rw [hr] at hl
      simp only [Option.some.injEq] at hl; subst hl
      obtain ⟨us, h1, h2⟩ := resL_ok hT h r l' hr
      refine ⟨a.tmps.getD t undef :: us, ?_, by simp only [RelTs]; exact ⟨h.env t, h2⟩⟩
      simp only [List.mapM_cons, resRun, Sem.run_bind, Sem.run_pure, Result.andThen_ok, h1]
  | .cell p t :: r, l, hl => by
    simp only [resL] at hl
    cases hd : doLoad tt s.ar t (s.env p) with
    | bad => rw [hd] at hl; cases hl
    | pick _ _ _ => rw [hd] at hl; cases hl
    | call _ _ => rw [hd] at hl; cases hl
    | one pre v ar' =>
      cases hr : resL tt s r with
      | none => rw [hd, hr] at hl; cases hl
      | some l' =>
        rw [hd, hr] at hl
        simp only [Option.some.injEq] at hl; subst hl
        obtain ⟨us, h1, h2⟩ := resL_ok hT h r l' hr
        have hc := load_core (P := P) h.ok hT t (h.env p)
        rw [hd] at hc
        obtain ⟨_, k, j, u, e1, e2, e3⟩ := hc (doLoad_pre hd)
        refine ⟨u :: us, ?_, by simp only [RelTs]; exact ⟨e3, h2⟩⟩
        simp only [List.mapM_cons, resRun, Sem.run_bind, e1, asAddr, Sem.run_pure, Result.andThen_ok, e2, h1]
theorem envA_ok {w : World} {S : Stab} {ρ : Rho} {ar : Ar} {args : List TV} {vs : List Value} (h : RelTs w S ρ ar args vs) (n : Nat) (t : Nat) : RelT w S ρ ar (envA args t) ((vs.toArray ++ Array.replicate n undef).getD t undef) := by
  have hl : ∀ {xs : List TV} {us : List Value}, RelTs w S ρ ar xs us → us.length = xs.length := by
    intro xs
    induction xs with
    | nil => intro us h; cases us with | nil => rfl | cons _ _ => simp [RelTs] at h
    | cons x r ih => intro us h; cases us with | nil => simp [RelTs] at h | cons u s => simp only [RelTs] at h; simp [ih h.2]
  unfold envA
  cases hn : nth args t with
  | some v =>
    obtain ⟨u, h1, h2⟩ := relTs_nth h hn
    have hlt : t < vs.length := (List.getElem?_eq_some_iff.1 h1).1
    have : (vs.toArray ++ Array.replicate n undef).getD t undef = u := by
      rw [Array.getD_eq_getD_getElem?, Array.getElem?_append_left (by simpa using hlt)]
      simp [h1]
    rw [this]; exact h2
  | none =>
    rw [nth_eq] at hn
    have hge : args.length ≤ t := by simpa using hn
    have hge' : vs.length ≤ t := by rw [hl h]; exact hge
    have : (vs.toArray ++ Array.replicate n undef).getD t undef = undef := by
      rw [Array.getD_eq_getD_getElem?, Array.getElem?_append_right (by simpa using hge')]
      rw [Array.getElem?_replicate]
      split <;> rfl
    rw [this]; exact relT_undef
/-- A function whose body the walk goes through has its contract. -/
theorem AC.intro (hc : CallOk P N G call) (hT : TTok P tt) {mv : List Nat} (hD : Drawn P N G tt mv call) {f : FuncId} {fn : Func} {c : Code} (hf : P.funcs[f]? = some fn) (hb : fn.body = some c) (hn : (fn.name == "runtime.NumGoroutine") = false)
    {A : List Blk} {args : List TV} {R : List Blk} {res : TV} (hnt : Nat.ble args.length fn.ntmps = true)
    (h : exec (std call loopP) tt mv c ⟨envA args, arOf A, A.length, fn.ntmps, A.length⟩ (finK (std call loopP) tt fn.results.toList R res)) : AC P N G f A args R res := by
  refine ⟨⟨fn, hf, by simp [hb], hn⟩, fun Γ vs hN hG hok hids hvs => ?_⟩
  have hlen : vs.length = args.length := by
    have hl : ∀ {xs : List TV} {us : List Value}, RelTs Γ.w0 Γ.S0 Γ.ρ0 (arOf A) xs us → us.length = xs.length := by
      intro xs
      induction xs with
      | nil => intro us h; cases us with | nil => rfl | cons _ _ => simp [RelTs] at h
      | cons x r ih => intro us h; cases us with | nil => simp [RelTs] at h | cons u s => simp only [RelTs] at h; simp [ih h.2]
    exact hl hvs
  have hle := Nat.le_of_ble_eq_true hnt
  refine calls_of_wp hf hb (wp_mono (exec_ok (P := P) (Γ := Γ) hc ⟨hN, hG⟩ hT hD c _ _ h Γ.w0 Γ.S0 Γ.ρ0 _ ⟨hok, fun t => envA_ok hvs _ t, by simp [hlen]; omega, rfl, fun b hb => hids b hb⟩ hids) ?_)
  rintro e a w' ⟨e', st, S', ρ', h1, h2, h3, h4⟩
  have fin : finK (std call loopP) tt fn.results.toList R res .ret st → a.defers = [] ∧ ∃ v, (results fn a.tmps).run P w' = .ok v w' ∧ ∃ v0 S' ρ', Ending.returned v = .returned v0 ∧ Ok Γ w' S' ρ' (arOf R) ∧ Ids ρ' R.length ∧ RelT w' S' ρ' (arOf R) res v0 := by
    intro hk
    refine ⟨h2.defers, ?_⟩
    simp only [finK] at hk
    cases hr : resL tt st fn.results.toList with
    | none => rw [hr] at hk; exact hk.elim
    | some l =>
      rw [hr] at hk
      obtain ⟨σ, hσ, hro, hx⟩ : Exp st.ar st.nb st.np (oneOr l) R res := hk
      obtain ⟨us, hu1, hu2⟩ := resL_ok (P := P) hT h2 _ l hr
      obtain ⟨o1, o2⟩ := h2.ok.ren hro h2.np
      have hres : ∃ v, (results fn a.tmps).run P w' = .ok v w' ∧ RelT w' S' ρ' st.ar (oneOr l) v := by
        have hrun : (results fn a.tmps).run P w' = .ok (if h : us.toArray.size = 1 then us.toArray[0] else .tuple us.toArray) w' := by
          rw [results_eq, Sem.run_bind, Array.mapM_eq_mapM_toList, Sem.run_map, hu1]
          rfl
        refine ⟨_, hrun, ?_⟩
        match l, us, hu2 with
        | [], [], _ => simp only [oneOr]; unfold RelT; exact ⟨[], rfl, by simp only [RelTs]⟩
        | [x], [u], h => simp only [RelTs] at h; simpa [oneOr] using h.1
        | x :: y :: r, u :: v :: s, h =>
          simp only [oneOr]
          unfold RelT
          refine ⟨u :: v :: s, by simp, h⟩
        | [x], [], h => simp [RelTs] at h
        | [x], _ :: _ :: _, h => simp [RelTs] at h
        | [], _ :: _, h => simp [RelTs] at h
        | _ :: _ :: _, [], h => simp [RelTs] at h
        | _ :: _ :: _, [_], h => simp [RelTs] at h
      obtain ⟨v, hv1, hv2⟩ := hres
      exact ⟨v, hv1, v, _, _, rfl, o1, by rw [← hσ]; exact o2, TLe.rel h2.ok hro _ _ _ hx hv2⟩
  cases e with
  | normal =>
    cases e' with
    | normal => exact fin h4
    | exit i => exact h1.elim
    | ret => exact h1.elim
  | ret =>
    cases e' with
    | ret => exact fin h4
    | normal => exact h1.elim
    | exit i => exact h1.elim
  | exit i =>
    cases e' with
    | exit j => exact h4.elim
    | normal => exact h1.elim
    | ret => exact h1.elim
  | goto l => exact h1.elim
  | panic ch => exact h1.elim
  | outgrown => exact h1.elim
end
end Go.Proofs.YtlpcphndgjibpaaDoor.Rx
/- Calls under contracts. No program's text. No condition. -/
namespace Go.Proofs.YtlpcphndgjibpaaDoor.Rx
open Go
/-! Arguments that are data: slices of ours are handed on. -/
def dvT (ar : Ar) : TV → Option (TV × Ar)
  | .c x => match dvOf ar x with
    | some y => some (.c (.d y), frz ar x)
    | none => none
  | .agg cs => match dvsOf ar cs with
    | some (ds, ar') => some (.agg (ds.map .d), ar')
    | none => none
  | .tup _ => none
def dvTs (ar : Ar) : List TV → Option (List TV × Ar)
  | [] => some ([], ar)
  | x :: r => match dvT ar x with
    | some (y, ar1) => match dvTs ar1 r with
      | some (l, ar2) => some (y :: l, ar2)
      | none => none
    | none => none
mutual
def shC (n : Nat) : CV → CV
  | .own b len => .own (n + b) len
  | .ptr b j => .ptr (n + b) j
  | .vptr b i j => .vptr (n + b) i j
  | .clo f cs => .clo f (shCs n cs)
  | x => x
def shCs (n : Nat) : List CV → List CV
  | [] => []
  | x :: r => shC n x :: shCs n r
end
mutual
def shT (n : Nat) : TV → TV
  | .c x => .c (shC n x)
  | .agg cs => .agg (shCs n cs)
  | .tup ts => .tup (shTs n ts)
def shTs (n : Nat) : List TV → List TV
  | [] => []
  | x :: r => shT n x :: shTs n r
end
def shB (n : Nat) : Blk → Blk
  | .box cs => .box (shCs n cs)
  | b => b
def placeL (ar : Ar) (n : Nat) : Nat → List Blk → Ar
  | _, [] => ar
  | i, B :: r => placeL (setB ar (n + i) (shB n B)) n (i + 1) r
def DCs : List CV → List CV → Prop
  | [], [] => True
  | .d x :: r, .d y :: s => DLe x y ∧ DCs r s
  | _, _ => False
def DT : TV → TV → Prop
  | .c (.d x), .c (.d y) => DLe x y
  | .agg xs, .agg ys => DCs xs ys
  | _, _ => False
def DTs : List TV → List TV → Prop
  | [], [] => True
  | x :: r, y :: s => DT x y ∧ DTs r s
  | _, _ => False
/-- A call whose arguments are data and whose results are its own. -/
def callP (P : Program) (N : Nat) (G : World → Prop) : CallT := fun f args st K =>
  ∃ args' ds ar' R res, dvTs st.ar args = some (ds, ar') ∧ DTs ds args' ∧ AC P N G f [] args' R res ∧ Nat.ble R.length 8 = true ∧
    K (shT st.nb res) { st with ar := placeL ar' st.nb 0 R }
section
variable {P : Program} {w : World} {S : Stab} {ρ : Rho} {ar : Ar}
theorem dvT_ok {Γ : Ctx} {x : TV} {u : Value} {y : TV} {ar' : Ar} (h : Ok Γ w S ρ ar) (hx : RelT w S ρ ar x u) (hd : dvT ar x = some (y, ar')) :
    ∃ S', Ok Γ w S' ρ ar' ∧ Goes w S ρ ar w S' ρ ar' ∧ ∀ (S2 : Stab) (ρ2 : Rho) (a2 : Ar), (∀ k o, S' k o → S2 k o) → RelT w S2 ρ2 a2 y u := by
  cases x with
  | c x =>
    simp only [dvT] at hd
    cases hv : dvOf ar x with
    | none => rw [hv] at hd; cases hd
    | some v =>
      rw [hv] at hd
      simp only [Option.some.injEq, Prod.mk.injEq] at hd
      obtain ⟨rfl, rfl⟩ := hd
      simp only [RelT] at hx
      have hcs : RelCs w S ρ ar [x] [u] := by simp only [RelCs]; exact ⟨hx, trivial⟩
      obtain ⟨S', h1, g1, _, h2⟩ := dvs_ok h hcs (ds := [v]) (ar' := frz ar x) (by simp [dvsOf, hv])
      refine ⟨S', h1, g1, fun S2 ρ2 a2 hs => ?_⟩
      unfold RelT RelC
      exact RelD.mono (fun _ _ _ => rfl) hs _ _ (h2 0 v u rfl rfl)
  | agg cs =>
    simp only [dvT] at hd
    cases hv : dvsOf ar cs with
    | none => rw [hv] at hd; cases hd
    | some p =>
      obtain ⟨ds, a1⟩ := p
      rw [hv] at hd
      simp only [Option.some.injEq, Prod.mk.injEq] at hd
      obtain ⟨rfl, rfl⟩ := hd
      obtain ⟨vs, rfl, hcs⟩ := relT_agg hx
      obtain ⟨S', h1, g1, h2, h3⟩ := dvs_ok h hcs hv
      refine ⟨S', h1, g1, fun S2 ρ2 a2 hs => ?_⟩
      unfold RelT
      exact ⟨vs, rfl, relCs_dv ⟨h2, fun i x u hx hu => RelD.mono (fun _ _ _ => rfl) hs _ _ (h3 i x u hx hu)⟩⟩
  | tup ts => simp [dvT] at hd
theorem dvTs_ok {Γ : Ctx} : ∀ {xs : List TV} {us : List Value} {S : Stab} {ar : Ar} {ys : List TV} {ar' : Ar}, Ok Γ w S ρ ar → RelTs w S ρ ar xs us → dvTs ar xs = some (ys, ar') →
    ∃ S', Ok Γ w S' ρ ar' ∧ Goes w S ρ ar w S' ρ ar' ∧ ∀ (S2 : Stab) (ρ2 : Rho) (a2 : Ar), (∀ k o, S' k o → S2 k o) → RelTs w S2 ρ2 a2 ys us
  | [], us, S, ar, ys, ar', h, hx, hd => by
    simp only [dvTs, Option.some.injEq, Prod.mk.injEq] at hd
    obtain ⟨rfl, rfl⟩ := hd
    cases us with
    | nil => exact ⟨S, h, Goes.refl _ _ _ _, fun _ _ _ _ => by simp only [RelTs]⟩
    | cons _ _ => simp [RelTs] at hx
  | x :: r, us, S, ar, ys, ar', h, hx, hd => by
    cases us with
    | nil => simp [RelTs] at hx
    | cons u us =>
      simp only [RelTs] at hx
      simp only [dvTs] at hd
      cases h1 : dvT ar x with
      | none => rw [h1] at hd; cases hd
      | some p =>
        obtain ⟨y, a1⟩ := p
        rw [h1] at hd
        dsimp only at hd
        cases h2 : dvTs a1 r with
        | none => rw [h2] at hd; cases hd
        | some q =>
          obtain ⟨l, a2⟩ := q
          rw [h2] at hd
          simp only [Option.some.injEq, Prod.mk.injEq] at hd
          obtain ⟨rfl, rfl⟩ := hd
          obtain ⟨S1, o1, g1, r1⟩ := dvT_ok h hx.1 h1
          obtain ⟨S2, o2, g2, r2⟩ := dvTs_ok o1 (RelTs.goes g1 _ _ hx.2) h2
          refine ⟨S2, o2, g1.trans g2, fun S3 ρ3 a3 hs => ?_⟩
          simp only [RelTs]
          exact ⟨r1 S3 ρ3 a3 fun k o ho => hs k o (g2.sub k o ho), r2 S3 ρ3 a3 hs⟩
theorem placeL_at (ar : Ar) (n : Nat) : ∀ (R : List Blk) (i : Nat) (b : Nat), placeL ar n i R b = if n + i ≤ b ∧ b < n + i + R.length then shB n (arOf R (b - (n + i))) else ar b
  | [], i, b => by
    rw [if_neg (by simp)]; rfl
  | B :: r, i, b => by
    simp only [placeL]
    rw [placeL_at _ n r (i + 1) b]
    simp only [List.length_cons]
    by_cases h1 : b = n + i
    · subst h1
      rw [if_neg (by omega), if_pos (by omega), setB_same]
      simp [arOf, nth]
    · by_cases h2 : n + (i + 1) ≤ b ∧ b < n + (i + 1) + r.length
      · rw [if_pos h2, if_pos (by omega)]
        have : b - (n + i) = (b - (n + (i + 1))) + 1 := by omega
        rw [this]; simp [arOf, nth]
      · rw [if_neg h2, if_neg (by omega), setB_other _ _ h1]
/-- The blocks that a call hands back, under new names. -/
def mixR (ρ ρ' : Rho) (n m : Nat) : Rho := fun b => if n ≤ b ∧ b < n + m then (match ρ' (b - n) with | .free => .virt | s => s) else ρ b
section
variable {ρ' : Rho} {arR ar2 : Ar} {n m : Nat} {w' : World} {S' : Stab}
theorem mixR_at {b : Nat} (hm : b < m) (hf : ρ' b ≠ .free) : mixR ρ ρ' n m (n + b) = ρ' b := by
  unfold mixR
  rw [if_pos (by omega), show n + b - n = b from by omega]
  cases h : ρ' b with
  | free => exact absurd h hf
  | _ => rfl
mutual
theorem shC_rel (hi : Ids ρ' m) (ha : ∀ b, b < m → ar2 (n + b) = shB n (arR b)) : ∀ (x : CV) (u : Value), RelC w' S' ρ' arR x u → RelC w' S' (mixR ρ ρ' n m) ar2 (shC n x) u
  | .d x, u, h => by simpa only [shC, RelC] using h
  | .own b len, u, h => by
    simp only [RelC] at h
    simp only [shC, RelC]
    obtain ⟨h1, h2, h3⟩ := h
    have hb := hi b h2
    rw [mixR_at hb h2, ha b hb]
    refine ⟨h1, h2, ?_⟩
    cases hx : arR b with
    | dead => rw [hx] at h3; exact trivial
    | box cs => exact trivial
    | vec L e sz f wr st => rw [hx] at h3; exact h3
  | .ptr b j, u, h => by
    simp only [RelC] at h
    simp only [shC, RelC]
    obtain ⟨h1, h2, h3⟩ := h
    have hb := hi b h2
    rw [mixR_at hb h2, ha b hb]
    refine ⟨h1, h2, ?_⟩
    cases hx : arR b with
    | dead => exact trivial
    | box cs => rw [hx] at h3; exact h3
    | vec L e sz f wr st => exact trivial
  | .vptr b i j, u, h => by
    simp only [RelC] at h
    simp only [shC, RelC]
    obtain ⟨h1, h2, h3⟩ := h
    have hb := hi b h2
    rw [mixR_at hb h2, ha b hb]
    refine ⟨h1, h2, ?_⟩
    cases hx : arR b with
    | dead => exact trivial
    | box cs => exact trivial
    | vec L e sz f wr st => rw [hx] at h3; exact h3
  | .iptr k f, u, h => by simpa only [shC, RelC] using h
  | .clo f cs, u, h => by
    simp only [RelC] at h
    simp only [shC, RelC]
    obtain ⟨vs, rfl, h⟩ := h
    exact ⟨vs, rfl, shCs_rel hi ha cs vs h⟩
  | .junk, u, h => by simp only [shC, RelC]
theorem shCs_rel (hi : Ids ρ' m) (ha : ∀ b, b < m → ar2 (n + b) = shB n (arR b)) : ∀ (xs : List CV) (us : List Value), RelCs w' S' ρ' arR xs us → RelCs w' S' (mixR ρ ρ' n m) ar2 (shCs n xs) us
  | [], [], h => by simp only [shCs, RelCs]
  | x :: r, u :: s, h => by
    simp only [RelCs] at h
    simp only [shCs, RelCs]
    exact ⟨shC_rel hi ha x u h.1, shCs_rel hi ha r s h.2⟩
  | [], _ :: _, h => by simp [RelCs] at h
  | _ :: _, [], h => by simp [RelCs] at h
end
mutual
theorem shT_rel (hi : Ids ρ' m) (ha : ∀ b, b < m → ar2 (n + b) = shB n (arR b)) : ∀ (x : TV) (u : Value), RelT w' S' ρ' arR x u → RelT w' S' (mixR ρ ρ' n m) ar2 (shT n x) u
  | .c x, u, h => by
    simp only [RelT] at h
    simp only [shT, RelT]
    exact shC_rel hi ha x u h
  | .agg cs, u, h => by
    simp only [RelT] at h
    simp only [shT, RelT]
    obtain ⟨vs, rfl, h⟩ := h
    exact ⟨vs, rfl, shCs_rel hi ha cs vs h⟩
  | .tup ts, u, h => by
    simp only [RelT] at h
    simp only [shT, RelT]
    obtain ⟨vs, rfl, h⟩ := h
    exact ⟨vs, rfl, shTs_rel hi ha ts vs h⟩
theorem shTs_rel (hi : Ids ρ' m) (ha : ∀ b, b < m → ar2 (n + b) = shB n (arR b)) : ∀ (xs : List TV) (us : List Value), RelTs w' S' ρ' arR xs us → RelTs w' S' (mixR ρ ρ' n m) ar2 (shTs n xs) us
  | [], [], h => by simp only [shTs, RelTs]
  | x :: r, u :: s, h => by
    simp only [RelTs] at h
    simp only [shTs, RelTs]
    exact ⟨shT_rel hi ha x u h.1, shTs_rel hi ha r s h.2⟩
  | [], _ :: _, h => by simp [RelTs] at h
  | _ :: _, [], h => by simp [RelTs] at h
end
end
/-- Where a call begins. -/
theorem callee_ok {Γ : Ctx} (h : Ok Γ w S ρ ar) : ∃ Γ' : Ctx, Γ'.w0 = w ∧ Γ'.S0 = S ∧ Γ'.ρ0 = (fun _ => .free) ∧ Γ'.N = Γ.N ∧ Γ'.G = Γ.G ∧ (∀ k, ¬ Γ'.F k) ∧ Ok Γ' w S (fun _ => .free) (arOf []) := by
  refine ⟨{ w0 := w, S0 := S, ρ0 := fun _ => .free, F := fun _ => False, N := Γ.N, G := Γ.G, stable := Γ.stable, g0 := h.glob, n0 := Nat.le_trans Γ.n0 h.size, f0 := fun _ hf => hf.elim, s0 := h.lt }, rfl, rfl, rfl, rfl, rfl, fun k hk => hk, ?_⟩
  refine ⟨fun b => ?_, (fun b b' k hb => by cases hb), (fun b k hb => by cases hb), rfl, rfl, rfl, Nat.le_refl _, fun _ _ _ => rfl, fun _ _ _ => rfl, fun _ _ ho => ho, fun _ _ ho => .inl ho, h.lt, fun b _ => by simp [arOf, nth], fun b hb => absurd rfl hb, fun b hb => absurd rfl hb, (fun _ _ _ _ _ _ _ _ hb => by cases hb)⟩
  unfold RelB
  simp [arOf, nth]
theorem DCs.rel : ∀ {xs ys : List CV} {us : List Value}, DCs xs ys → RelCs w S ρ ar xs us → RelCs w S ρ ar ys us
  | [], [], us, _, h => h
  | .d x :: r, .d y :: s, us, hd, h => by
    cases us with
    | nil => simp [RelCs] at h
    | cons u us =>
      simp only [DCs] at hd
      simp only [RelCs, RelC] at h ⊢
      exact ⟨DLe.rel hd.1 h.1, DCs.rel hd.2 h.2⟩
theorem DT.rel {x y : TV} {u : Value} (hd : DT x y) (h : RelT w S ρ ar x u) : RelT w S ρ ar y u := by
  unfold DT at hd
  split at hd
  · simp only [RelT, RelC] at h ⊢
    exact DLe.rel hd h
  · simp only [RelT] at h ⊢
    obtain ⟨vs, rfl, h⟩ := h
    exact ⟨vs, rfl, DCs.rel hd h⟩
  · exact hd.elim
theorem DTs.rel : ∀ {xs ys : List TV} {us : List Value}, DTs xs ys → RelTs w S ρ ar xs us → RelTs w S ρ ar ys us
  | [], [], us, _, h => h
  | x :: r, y :: s, us, hd, h => by
    cases us with
    | nil => simp [RelTs] at h
    | cons u us =>
      simp only [DTs] at hd
      simp only [RelTs] at h ⊢
      exact ⟨DT.rel hd.1 h.1, DTs.rel hd.2 h.2⟩
  | [], _ :: _, _, hd, _ => by simp [DTs] at hd
  | _ :: _, [], _, hd, _ => by simp [DTs] at hd
theorem callP_ok (N : Nat) (G : World → Prop) {Γ : Ctx} (hN : Γ.N = N) (hG : Γ.G = G) {f : FuncId} {args : List TV} {st : St} {K : TV → St → Prop} (hk : callP P N G f args st K) {a : Act} {vs : List Value} (h : RelS Γ w S ρ st a) (hvs : RelTs w S ρ st.ar args vs)
    (hfree : ∀ b, st.nb ≤ b → b < st.nb + 8 → ρ b = .free) :
    (∃ fn, P.funcs[f]? = some fn ∧ fn.body.isSome = true ∧ (fn.name == "runtime.NumGoroutine") = false) ∧
    Calls P f vs.toArray w fun e w' => ∃ v res st' S' ρ', e = .returned v ∧ RelS Γ w' S' ρ' st' a ∧ RelT w' S' ρ' st'.ar res v ∧ K res st' ∧
      (∀ b, ρ' b ≠ .free → ρ b ≠ .free ∨ (st.nb ≤ b ∧ b < st.nb + 8)) := by
  obtain ⟨args', ds, ar1, R, res, h1, h2, ⟨hfn, hac⟩, h8, hkk⟩ := hk
  refine ⟨hfn, ?_⟩
  obtain ⟨S1, o1, g1, hds⟩ := dvTs_ok h.ok hvs h1
  obtain ⟨Γ', c1, c2, c3, c4, c5, c6, ok0⟩ := callee_ok o1
  have hR8 := Nat.le_of_ble_eq_true h8
  have hargs : RelTs w S1 (fun _ => .free) (arOf []) args' vs := DTs.rel h2 (hds S1 _ _ (fun _ _ ho => ho))
  subst c1
  have hcall := hac Γ' vs (c4.trans hN) (c5.trans hG) (by rw [c2, c3]; exact ok0) (by rw [c3]; exact fun b hb => absurd rfl hb) (by rw [c2, c3]; exact hargs)
  refine hcall.mono ?_
  rintro e w' ⟨v, S', ρ', rfl, ok', ids', rel'⟩
  have hat : ∀ b, b < R.length → placeL ar1 st.nb 0 R (st.nb + b) = shB st.nb (arOf R b) := fun b hb => by
    rw [placeL_at, if_pos (by omega)]
    congr 2; omega
  have hout : ∀ b, ¬ (st.nb ≤ b ∧ b < st.nb + R.length) → placeL ar1 st.nb 0 R b = ar1 b ∧ mixR ρ ρ' st.nb R.length b = ρ b := fun b hb => by
    rw [placeL_at, if_neg (by omega)]
    exact ⟨rfl, by unfold mixR; rw [if_neg hb]⟩
  have hnew : ∀ b, ρ b ≠ .free → ¬ (st.nb ≤ b ∧ b < st.nb + R.length) := fun b hb h3 => hb (hfree b h3.1 (by omega))
  have hheap : ∀ k, k < Γ'.w0.heap.size → w'.heap[k]? = Γ'.w0.heap[k]? := fun k hk => ok'.block k hk (c6 k)
  have hS : ∀ k o, S' k o → S1 k o ∨ (Γ'.w0.heap.size ≤ k ∧ k < w'.heap.size) := fun k o ho => by
    rcases ok'.new k o ho with h3 | h3 | h3
    · rw [c2] at h3; exact .inl h3
    · exact .inr ⟨h3, ok'.lt k o ho⟩
    · exact (c6 k h3).elim
  have g2 : Goes Γ'.w0 S1 ρ ar1 w' S' (mixR ρ ρ' st.nb R.length) (placeL ar1 st.nb 0 R) := by
    refine ⟨fun k o ho => ok'.cells k o (by rw [c2]; exact ho), fun k o ho => ok'.sub k o (by rw [c2]; exact ho), fun b hb => ?_, fun b cs hb hcs => ?_, fun b L e sz f wr stt hb hcs => ?_⟩
    · rw [(hout b (hnew b hb)).2]; exact hb
    · rw [(hout b (hnew b hb)).1] at hcs
      exact ⟨⟨cs, hcs⟩, (hout b (hnew b hb)).2⟩
    · rw [(hout b (hnew b hb)).1] at hcs
      exact ⟨⟨f, wr, hcs⟩, (hout b (hnew b hb)).2, fun k hk cur fr hcur => ⟨cur, fr, by rw [hheap k (o1.own b k hk).2.1]; exact hcur, rfl⟩⟩
  have mixAt : ∀ b k, mixR ρ ρ' st.nb R.length b = .at k → (∃ i, b = st.nb + i ∧ i < R.length ∧ ρ' i = .at k) ∨ (¬ (st.nb ≤ b ∧ b < st.nb + R.length) ∧ ρ b = .at k) := fun b k hb => by
    by_cases hc : st.nb ≤ b ∧ b < st.nb + R.length
    · unfold mixR at hb
      rw [if_pos hc] at hb
      refine .inl ⟨b - st.nb, by omega, by omega, ?_⟩
      cases hs : ρ' (b - st.nb) with
      | free => rw [hs] at hb; cases hb
      | virt => rw [hs] at hb; cases hb
      | «at» k' => rw [hs] at hb; exact hb
    · exact .inr ⟨hc, by rw [← (hout b hc).2]; exact hb⟩
  have hown' : ∀ i k, ρ' i = .at k → Γ'.w0.heap.size ≤ k ∧ k < w'.heap.size := fun i k hi => by
    obtain ⟨_, h3, h4⟩ := ok'.own i k hi
    rcases h4 with h4 | h4
    · exact ⟨h4, h3⟩
    · exact (c6 k h4).elim
  have o2 : Ok Γ w' S' (mixR ρ ρ' st.nb R.length) (placeL ar1 st.nb 0 R) := by
    refine o1.step g2 ok'.os ok'.tape ok'.output ok'.size (fun b => ?_) (fun b b' k hb hb' => ?_) (fun b k hb => ?_) (fun k hk _ => hheap k hk) (fun k o ho => ?_) (fun b hb => ?_)
    · by_cases hc : st.nb ≤ b ∧ b < st.nb + R.length
      · refine .inr ?_
        obtain ⟨i, rfl⟩ : ∃ i, b = st.nb + i := ⟨b - st.nb, by omega⟩
        have hi : i < R.length := by omega
        have hB := ok'.blk i
        unfold RelB at hB ⊢
        rw [hat i hi]
        cases hx : arOf R i with
        | dead => trivial
        | box cs =>
          rw [hx] at hB
          obtain ⟨k, cur, t, fr, k1, k2, k3, k4, k5⟩ := hB
          simp only [shB]
          exact ⟨k, cur, t, fr, by rw [mixR_at hi (by rw [k1]; intro e; cases e)]; exact k1, k2, k3, shCs_rel ids' hat cs _ k4, k5⟩
        | vec L e sz f wr stt =>
          rw [hx] at hB
          simp only [shB]
          dsimp only at hB
          cases hs : ρ' i with
          | free => rw [hs] at hB; exact hB.elim
          | virt => rw [hs] at hB; rw [mixR_at hi (by rw [hs]; intro e; cases e), hs]; exact hB
          | «at» k => rw [hs] at hB; rw [mixR_at hi (by rw [hs]; intro e; cases e), hs]; exact hB
      · refine .inl ⟨(hout b hc).1, (hout b hc).2, fun k hk => ⟨hheap k (o1.own b k hk).2.1, fun o ho => ?_⟩⟩
        rcases hS k o ho with h3 | h3
        · exact h3
        · have := (o1.own b k hk).2.1; omega
    · rcases mixAt b k hb with ⟨i, rfl, hi, h3⟩ | ⟨h3, h4⟩ <;> rcases mixAt b' k hb' with ⟨j, rfl, hj, h5⟩ | ⟨h5, h6⟩
      · rw [ok'.inj i j k h3 h5]
      · have := (hown' i k h3).1; have := (o1.own b' k h6).2.1; omega
      · have := (hown' j k h5).1; have := (o1.own b k h4).2.1; omega
      · exact o1.inj _ _ _ h4 h6
    · rcases mixAt b k hb with ⟨i, rfl, hi, h3⟩ | ⟨h3, h4⟩
      · exact .inr (hown' i k h3)
      · exact .inl ⟨b, h4⟩
    · rcases hS k o ho with h3 | h3
      · exact .inl h3
      · exact .inr (.inl h3)
    · by_cases hc : st.nb ≤ b ∧ b < st.nb + R.length
      · unfold mixR at hb
        rw [if_pos hc] at hb
        cases hs : ρ' (b - st.nb) <;> rw [hs] at hb <;> cases hb
      · rw [(hout b hc).1]
        rw [(hout b hc).2] at hb
        exact o1.freed b hb
  refine ⟨v, _, { st with ar := placeL ar1 st.nb 0 R }, S', _, rfl, ⟨o2, fun t => RelT.goes (g1.trans g2) _ _ (h.env t), h.nt, h.defers, h.np⟩, shT_rel ids' hat res v rel', hkk, fun b hb => ?_⟩
  by_cases hc : st.nb ≤ b ∧ b < st.nb + R.length
  · exact .inr ⟨hc.1, by omega⟩
  · rw [(hout b hc).2] at hb; exact .inl hb
end
end Go.Proofs.YtlpcphndgjibpaaDoor.Rx
/- Operations that only read, or make new memory, do the same in whatever order. No program's text. No condition. -/
namespace Go.Proofs.YtlpcphndgjibpaaDoor.Rx
open Go
/-- The blocks that are there are there, written no more at the most. -/
def AEq (R : Nat → Prop) (a x : Ar) : Prop := (∀ b cs, R b → a b = .box cs → x b = .box cs) ∧ ∀ b L e sz f wr st, R b → a b = .vec L e sz f wr st → ∃ wr', x b = .vec L e sz f wr' st
theorem AEq.refl (R : Nat → Prop) (a : Ar) : AEq R a a := ⟨fun _ _ _ h => h, fun _ _ _ _ _ wr _ _ h => ⟨wr, h⟩⟩
mutual
def RefC (R : Nat → Prop) : CV → Prop
  | .own b _ => R b
  | .ptr b _ => R b
  | .vptr b _ _ => R b
  | .clo _ cs => RefCs R cs
  | _ => True
def RefCs (R : Nat → Prop) : List CV → Prop
  | [] => True
  | x :: r => RefC R x ∧ RefCs R r
end
mutual
def RefT (R : Nat → Prop) : TV → Prop
  | .c x => RefC R x
  | .agg cs => RefCs R cs
  | .tup ts => RefTs R ts
def RefTs (R : Nat → Prop) : List TV → Prop
  | [] => True
  | x :: r => RefT R x ∧ RefTs R r
end
inductive Tr (nid : Nat) (a : Ar) : (Ar → Ar) → Prop
  | id : Tr nid a (fun x => x)
  | frz {T : Ar → Ar} (b : Nat) (hb : a b ≠ .dead) (h : Tr nid a T) : Tr nid a (fun x => frz (T x) (.own b 0))
  | new {T : Ar → Ar} (k : Nat) (B : Blk) (h1 : nid ≤ k) (h2 : k < nid + 8) (h : Tr nid a T) : Tr nid a (fun x => setB (T x) k B)
theorem frz_at (x : Ar) (b c : Nat) : frz x (.own b 0) c = if c = b then (match x b with | .vec L e sz f _ st => .vec L e sz f false st | B => B) else x c := by
  cases hb : x b with
  | dead =>
    have : frz x (.own b 0) = x := by simp only [frz, hb]
    rw [this]
    by_cases hc : c = b
    · subst hc; rw [if_pos rfl]; exact hb
    · rw [if_neg hc]
  | box cs =>
    have : frz x (.own b 0) = x := by simp only [frz, hb]
    rw [this]
    by_cases hc : c = b
    · subst hc; rw [if_pos rfl]; exact hb
    · rw [if_neg hc]
  | vec L e sz f wr st =>
    have : frz x (.own b 0) = setB x b (.vec L e sz f false st) := by simp only [frz, hb]
    rw [this]
    by_cases hc : c = b
    · subst hc; rw [if_pos rfl]; exact setB_same _ _ _
    · rw [if_neg hc]; exact setB_other _ _ hc
theorem frz_dead (x : Ar) (c : CV) (b : Nat) : frz x c b = .dead ↔ x b = .dead := by
  cases c with
  | own q len =>
    show frz x (.own q 0) b = .dead ↔ _
    rw [frz_at]
    by_cases h : b = q
    · subst h
      rw [if_pos rfl]
      cases x b <;> simp
    · rw [if_neg h]
  | _ => exact Iff.rfl
section
variable {nid n2 : Nat} {a : Ar} {T T2 : Ar → Ar}
theorem Tr.comp {T2 : Ar → Ar} (h : Tr nid a T) (h2 : Tr nid a T2) : Tr nid a (fun x => T2 (T x)) := by
  induction h2 with
  | id => exact h
  | frz b hb _ ih => exact .frz b hb ih
  | new k B h1 h3 _ ih => exact .new k B h1 h3 ih
theorem Tr.aeq (h : Tr nid a T) (hd : ∀ b, nid ≤ b → b < nid + 8 → a b = .dead) {R : Nat → Prop} {x : Ar} (hx : AEq R a x) : AEq R a (T x) := by
  induction h with
  | id => exact hx
  | @frz T b hb _ ih =>
    refine ⟨fun c cs hR hc => ?_, fun c L e sz f wr st hR hc => ?_⟩ <;> dsimp only
    · rw [frz_at]
      by_cases h : c = b
      · subst h
        rw [if_pos rfl, ih.1 c cs hR hc]
      · rw [if_neg h]; exact ih.1 c cs hR hc
    · obtain ⟨wr', h1⟩ := ih.2 c L e sz f wr st hR hc
      rw [frz_at]
      by_cases h : c = b
      · subst h
        rw [if_pos rfl, h1]; exact ⟨false, rfl⟩
      · rw [if_neg h]; exact ⟨wr', h1⟩
  | @new T k B h1 h2 _ ih =>
    refine ⟨fun c cs hR hc => ?_, fun c L e sz f wr st hR hc => ?_⟩ <;> dsimp only
    · have : c ≠ k := fun e => by subst e; rw [hd c h1 h2] at hc; cases hc
      rw [setB_other _ _ this]; exact ih.1 c cs hR hc
    · have : c ≠ k := fun e => by subst e; rw [hd c h1 h2] at hc; cases hc
      rw [setB_other _ _ this]; exact ih.2 c L e sz f wr st hR hc
theorem Tr.dead (h : Tr nid a T) {x : Ar} {b : Nat} (hx : x b = .dead) (hn : ¬ (nid ≤ b ∧ b < nid + 8)) : T x b = .dead := by
  induction h with
  | id => exact hx
  | @frz T c _ _ ih =>
    dsimp only
    rw [frz_at]
    by_cases h : b = c
    · subst h; rw [if_pos rfl, ih]
    · rw [if_neg h]; exact ih
  | @new T k B h1 h2 _ ih =>
    have : b ≠ k := fun e => hn (by omega)
    dsimp only
    rw [setB_other _ _ this]; exact ih
theorem frz_frz (x : Ar) (b c : Nat) : frz (frz x (.own b 0)) (.own c 0) = frz (frz x (.own c 0)) (.own b 0) := by
  funext q
  simp only [frz_at]
  by_cases h1 : q = c <;> by_cases h2 : q = b <;> by_cases h3 : c = b <;> simp [h1, h2, h3] <;> (try (cases x b <;> simp)) <;> (try (cases x c <;> simp)) <;> simp_all
theorem frz_set (x : Ar) (b k : Nat) (B : Blk) (h : b ≠ k) : frz (setB x k B) (.own b 0) = setB (frz x (.own b 0)) k B := by
  funext q
  rw [frz_at]
  by_cases h1 : q = b
  · subst h1
    rw [if_pos rfl, setB_other _ _ h, setB_other _ _ h, frz_at, if_pos rfl]
  · rw [if_neg h1]
    by_cases h2 : q = k
    · subst h2; rw [setB_same, setB_same]
    · rw [setB_other _ _ h2, setB_other _ _ h2, frz_at, if_neg h1]
theorem set_set (x : Ar) (k k' : Nat) (B B' : Blk) (h : k ≠ k') : setB (setB x k B) k' B' = setB (setB x k' B') k B := by
  funext q
  by_cases h1 : q = k
  · subst h1; rw [setB_other _ _ h, setB_same, setB_same]
  · by_cases h2 : q = k'
    · subst h2; rw [setB_same, setB_other _ _ h1, setB_same]
    · rw [setB_other _ _ h2, setB_other _ _ h1, setB_other _ _ h1, setB_other _ _ h2]
theorem Tr.frz_comm (h : Tr nid a T) {b : Nat} (hb : a b ≠ .dead) (hd : ∀ b, nid ≤ b → b < nid + 8 → a b = .dead) (x : Ar) : Go.Proofs.YtlpcphndgjibpaaDoor.Rx.frz (T x) (.own b 0) = T (Go.Proofs.YtlpcphndgjibpaaDoor.Rx.frz x (.own b 0)) := by
  induction h with
  | id => rfl
  | @frz T c _ _ ih => dsimp only; rw [frz_frz, ih]
  | @new T k B h1 h2 _ ih =>
    have : b ≠ k := fun e => hb (by rw [e]; exact hd k h1 h2)
    dsimp only
    rw [frz_set _ _ _ _ this, ih]
theorem Tr.set_comm (h : Tr nid a T) {k : Nat} {B : Blk} (hk : a k = .dead) (hn : ¬ (nid ≤ k ∧ k < nid + 8)) (x : Ar) : setB (T x) k B = T (setB x k B) := by
  induction h with
  | id => rfl
  | @frz T c hc _ ih =>
    have : c ≠ k := fun e => hc (by rw [e]; exact hk)
    dsimp only
    rw [← frz_set _ _ _ _ this, ih]
  | @new T j C h1 h2 _ ih =>
    have : j ≠ k := fun e => hn (by omega)
    dsimp only
    rw [set_set _ _ _ _ _ this, ih]
theorem Tr.comm (h : Tr nid a T) (h2 : Tr n2 a T2) (hd : ∀ b, nid ≤ b → b < nid + 8 → a b = .dead) (hd2 : ∀ b, n2 ≤ b → b < n2 + 8 → a b = .dead) (hn : nid + 8 ≤ n2 ∨ n2 + 8 ≤ nid) (x : Ar) : T (T2 x) = T2 (T x) := by
  induction h2 with
  | id => rfl
  | @frz T2 c hc _ ih => dsimp only; rw [← h.frz_comm hc hd, ih]
  | @new T2 k B h1 h3 _ ih => dsimp only; rw [← h.set_comm (hd2 k h1 h3) (by omega), ih]
end
section
variable {θ : Pr} {tt : TT} {e : Nat → TV} {a : Ar} {nid : Nat}
variable {R : Nat → Prop}
theorem aeq_dv {x : Ar} (hx : AEq R a x) {c : CV} {y : DV} (hR : RefC R c) (h : dvOf a c = some y) : dvOf x c = some y := by
  cases c with
  | own b len =>
    obtain ⟨L, e, sz, f, wr, st, hb, rfl⟩ := dvOf_own h
    obtain ⟨wr', hx'⟩ := hx.2 _ _ _ _ _ _ _ (by simpa only [RefC] using hR) hb
    simp [dvOf, hx']
  | d y => exact h
  | _ => simp [dvOf] at h
theorem frz_mono {x y : Ar} {c : CV} (hx : AEq R x y) : AEq R (frz x c) (frz y c) := by
  cases c with
  | own b len =>
    show AEq R (frz x (.own b 0)) (frz y (.own b 0))
    refine ⟨fun q cs hR hq => ?_, fun q L e sz f wr st hR hq => ?_⟩
    · rw [frz_at] at hq ⊢
      by_cases h : q = b
      · subst h
        rw [if_pos rfl] at hq ⊢
        cases hb : x q with
        | dead => rw [hb] at hq; cases hq
        | vec _ _ _ _ _ _ => rw [hb] at hq; cases hq
        | box ds => rw [hb] at hq; rw [hx.1 q ds hR hb]; exact hq
      · rw [if_neg h] at hq ⊢; exact hx.1 q cs hR hq
    · rw [frz_at] at hq ⊢
      by_cases h : q = b
      · subst h
        rw [if_pos rfl] at hq ⊢
        cases hb : x q with
        | dead => rw [hb] at hq; cases hq
        | box _ => rw [hb] at hq; cases hq
        | vec _ _ _ _ _ _ =>
          rw [hb] at hq
          obtain ⟨wr', h1⟩ := hx.2 q _ _ _ _ _ _ hR hb
          rw [h1]
          injection hq with e1 e2 e3 e4 e5 e6
          subst e1 e2 e3 e4 e6
          exact ⟨false, rfl⟩
      · rw [if_neg h] at hq ⊢; exact hx.2 q L e sz f wr st hR hq
  | _ => exact hx
def frzL (x : Ar) : List CV → Ar
  | [] => x
  | c :: r => frzL (frz x c) r
theorem dvsOf_mono : ∀ {cs : List CV} {a x : Ar} {ds : List DV} {a' : Ar}, RefCs R cs → dvsOf a cs = some (ds, a') → AEq R a x → dvsOf x cs = some (ds, frzL x cs)
  | [], a, x, ds, a', _, h, hx => by
    simp only [dvsOf, Option.some.injEq, Prod.mk.injEq] at h
    obtain ⟨rfl, rfl⟩ := h
    rfl
  | c :: r, a, x, ds, a', hR, h, hx => by
    simp only [RefCs] at hR
    simp only [dvsOf] at h
    cases hy : dvOf a c with
    | none => rw [hy] at h; cases h
    | some y =>
      rw [hy] at h
      dsimp only at h
      cases hz : dvsOf (frz a c) r with
      | none => rw [hz] at h; cases h
      | some p =>
        obtain ⟨l, a2⟩ := p
        rw [hz] at h
        simp only [Option.some.injEq, Prod.mk.injEq] at h
        obtain ⟨rfl, rfl⟩ := h
        simp only [dvsOf, aeq_dv hx hR.1 hy, dvsOf_mono hR.2 hz (frz_mono (c := c) hx), frzL]
theorem dvsOf_self {cs : List CV} {a : Ar} {ds : List DV} {a' : Ar} (h : dvsOf a cs = some (ds, a')) : a' = frzL a cs := by
  induction cs generalizing a ds with
  | nil =>
    simp only [dvsOf, Option.some.injEq, Prod.mk.injEq] at h
    exact h.2.symm
  | cons c r ih =>
    simp only [dvsOf] at h
    cases hy : dvOf a c with
    | none => rw [hy] at h; cases h
    | some y =>
      rw [hy] at h
      dsimp only at h
      cases hz : dvsOf (frz a c) r with
      | none => rw [hz] at h; cases h
      | some p =>
        obtain ⟨l, a2⟩ := p
        rw [hz] at h
        simp only [Option.some.injEq, Prod.mk.injEq] at h
        obtain ⟨rfl, rfl⟩ := h
        exact ih hz
theorem frzL_tr : ∀ {cs : List CV} {a b0 : Ar} {ds : List DV} {a' : Ar}, dvsOf b0 cs = some (ds, a') → (∀ b, b0 b ≠ .dead → a b ≠ .dead) → ∀ {T : Ar → Ar}, Tr nid a T → Tr nid a (fun x => frzL (T x) cs)
  | [], a, b0, ds, a', h, hb, T, hT => hT
  | c :: r, a, b0, ds, a', h, hb, T, hT => by
    simp only [dvsOf] at h
    cases hy : dvOf b0 c with
    | none => rw [hy] at h; cases h
    | some y =>
      rw [hy] at h
      dsimp only at h
      cases hz : dvsOf (frz b0 c) r with
      | none => rw [hz] at h; cases h
      | some p =>
        have hT1 : Tr nid a (fun x => frz (T x) c) := by
          cases c with
          | own b len =>
            obtain ⟨L, e, sz, f, wr, st, hbb, _⟩ := dvOf_own hy
            exact .frz b (hb b (by rw [hbb]; intro e; cases e)) hT
          | _ => exact hT
        exact frzL_tr hz (fun b h1 => hb b (fun h2 => h1 ((frz_dead b0 c b).2 h2))) hT1
/-- The same out of every memory that holds as much. -/
def Same1 (R : Nat → Prop) (a : Ar) (F : Ar → Out) : Prop := (∃ pre v, F a = .one pre v a ∧ ∀ x, AEq R a x → F x = .one pre v x) ∨ F a = .bad
theorem load_mono (t : Nat) (v : TV) (hR : RefT R v) : Same1 R a (fun x => doLoad tt x t v) := by
  unfold Same1 doLoad
  cases ht : tt t with
  | none => exact .inr rfl
  | some ti =>
    dsimp only
    split
    · rename_i b j
      cases hb : a b with
      | dead => exact .inr rfl
      | vec _ _ _ _ _ _ => exact .inr rfl
      | box cs =>
        dsimp only
        cases hk : takeN ti.size (dropN j cs) with
        | none => exact .inr rfl
        | some l => exact .inl ⟨_, _, rfl, fun x hx => by simp only [hx.1 _ _ (by simpa only [RefT, RefC] using hR) hb, hk]⟩
    · rename_i b i j
      cases hb : a b with
      | dead => exact .inr rfl
      | box cs => exact .inr rfl
      | vec L e sz f wr st =>
        dsimp only
        cases hk : Nat.ble (j + ti.size) sz with
        | false => exact .inr rfl
        | true =>
          refine .inl ⟨_, _, rfl, fun x hx => ?_⟩
          obtain ⟨wr', hx'⟩ := hx.2 _ _ _ _ _ _ _ (by simpa only [RefT, RefC] using hR) hb
          simp only [hx', hk, cond_true]
    · rename_i n f
      cases hk : Nat.ble ti.size n with
      | false => exact .inr rfl
      | true => exact .inl ⟨_, _, rfl, fun x hx => rfl⟩
    · exact .inr rfl
theorem nil_mono (v : TV) (hR : RefT R v) : Same1 R a (fun x => doNil x v) := by
  unfold Same1 doNil
  dsimp only
  split
  · rename_i b j
    cases hb : a b with
    | dead => exact .inr rfl
    | vec _ _ _ _ _ _ => exact .inr rfl
    | box cs => exact .inl ⟨_, _, rfl, fun x hx => by simp only [hx.1 _ _ (by simpa only [RefT, RefC] using hR) hb]⟩
  · rename_i b i j
    cases hb : a b with
    | dead => exact .inr rfl
    | box cs => exact .inr rfl
    | vec L e sz f wr st =>
      refine .inl ⟨_, _, rfl, fun x hx => ?_⟩
      obtain ⟨wr', hx'⟩ := hx.2 _ _ _ _ _ _ _ (by simpa only [RefT, RefC] using hR) hb
      simp only [hx']
  · exact .inl ⟨_, _, rfl, fun x hx => rfl⟩
  · exact .inl ⟨_, _, rfl, fun x hx => rfl⟩
  · exact .inr rfl
theorem fieldAddr_mono (t : Nat) (v : TV) (f : Nat) (hR : RefT R v) : Same1 R a (fun x => doFieldAddr tt x t v f) := by
  unfold Same1 doFieldAddr
  dsimp only
  split
  · rename_i fs sz by_ z q ht
    cases hn : nth fs f with
    | none => exact .inr rfl
    | some p =>
      obtain ⟨off, ty⟩ := p
      dsimp only
      cases h2 : tt ty with
      | none => exact .inr rfl
      | some ti =>
        dsimp only
        cases hz : Nat.beq ti.size 0 with
        | true => exact .inr rfl
        | false =>
          dsimp only [cond_false]
          split
          · rename_i b j
            cases hb : a b with
            | dead => exact .inr rfl
            | vec _ _ _ _ _ _ => exact .inr rfl
            | box cs => exact .inl ⟨_, _, rfl, fun x hx => by simp only [hx.1 _ _ (by simpa only [RefT, RefC] using hR) hb]⟩
          · rename_i b i j
            cases hb : a b with
            | dead => exact .inr rfl
            | box cs => exact .inr rfl
            | vec L e sz f wr st =>
              refine .inl ⟨_, _, rfl, fun x hx => ?_⟩
              obtain ⟨wr', hx'⟩ := hx.2 _ _ _ _ _ _ _ (by simpa only [RefT, RefC] using hR) hb
              simp only [hx']
          · rename_i n g
            cases hk : Nat.ble off n with
            | false => exact .inr rfl
            | true => exact .inl ⟨_, _, rfl, fun x hx => rfl⟩
          · exact .inr rfl
  · exact .inr rfl
theorem indexAddr_mono (t : Nat) (v i : TV) (hR : RefT R v) : Same1 R a (fun x => doIndexAddr θ tt x t v i) := by
  unfold Same1 doIndexAddr
  dsimp only
  cases hi : intOf i with
  | none => exact .inr rfl
  | some p =>
    obtain ⟨k, n⟩ := p
    dsimp only
    split
    · rename_i e sz by_ z q b len ht
      cases h2 : tt e with
      | none => exact .inr rfl
      | some ti =>
        cases hb : a b with
        | dead => exact .inr rfl
        | box cs => exact .inr rfl
        | vec L e sz f wr st =>
          dsimp only
          cases hk : Nat.beq ti.size sz with
          | false => exact .inr rfl
          | true =>
            refine .inl ⟨_, _, rfl, fun x hx => ?_⟩
            obtain ⟨wr', hx'⟩ := hx.2 _ _ _ _ _ _ _ (by simpa only [RefT, RefC] using hR) hb
            simp only [hx', hk, cond_true]
    · rename_i e sz by_ z q len sz' f ht
      cases h2 : tt e with
      | none => exact .inr rfl
      | some ti =>
        dsimp only
        cases hk : Nat.beq ti.size sz' with
        | false => exact .inr rfl
        | true => exact .inl ⟨_, _, rfl, fun x hx => rfl⟩
    · exact .inl ⟨_, _, rfl, fun x hx => rfl⟩
    · rename_i len e sz by_ z q b ht
      cases h2 : tt e with
      | none => exact .inr rfl
      | some ti =>
        cases hb : a b with
        | dead => exact .inr rfl
        | box cs => exact .inr rfl
        | vec L e sz f wr st =>
          dsimp only
          cases hk : (Nat.beq ti.size sz && Nat.beq L len) with
          | false => exact .inr rfl
          | true =>
            refine .inl ⟨_, _, rfl, fun x hx => ?_⟩
            obtain ⟨wr', hx'⟩ := hx.2 _ _ _ _ _ _ _ (by simpa only [RefT, RefC] using hR) hb
            simp only [hx', hk, cond_true]
    · exact .inr rfl
theorem len_mono (t : Nat) (v : TV) (hR : RefT R v) : Same1 R a (fun x => doLen θ tt x t v) := by
  unfold Same1 doLen
  dsimp only
  split
  · exact .inl ⟨_, _, rfl, fun x hx => rfl⟩
  · rename_i e sz by_ z q b len ht
    cases hb : a b with
    | dead => exact .inr rfl
    | box cs => exact .inr rfl
    | vec L e sz f wr st =>
      refine .inl ⟨_, _, rfl, fun x hx => ?_⟩
      obtain ⟨wr', hx'⟩ := hx.2 _ _ _ _ _ _ _ (by simpa only [RefT, RefC] using hR) hb
      simp only [hx']
  · exact .inl ⟨_, _, rfl, fun x hx => rfl⟩
  · exact .inl ⟨_, _, rfl, fun x hx => rfl⟩
  · exact .inr rfl
theorem bin_mono (op : BinOp) (t : Nat) (u v : TV) (hR : RefT R u) : Same1 R a (fun x => doBin θ tt x op t u v) := by
  unfold Same1 doBin
  dsimp only
  split
  · rename_i k m k' m'
    split
    · exact .inl ⟨_, _, rfl, fun x hx => rfl⟩
    · exact .inl ⟨_, _, rfl, fun x hx => rfl⟩
    · cases hk : kindEq k k' with
      | false => exact .inr rfl
      | true => exact .inl ⟨_, _, rfl, fun x hx => rfl⟩
    · cases hk : kindEq k k' with
      | false => exact .inr rfl
      | true => exact .inl ⟨_, _, rfl, fun x hx => rfl⟩
    · cases hk : kindEq k k' with
      | false => exact .inr rfl
      | true =>
        cases hc : isCmp op with
        | false => exact .inl ⟨_, _, rfl, fun x hx => rfl⟩
        | true => exact .inl ⟨_, _, rfl, fun x hx => rfl⟩
  · split
    · exact .inl ⟨_, _, rfl, fun x hx => rfl⟩
    · cases hc : isCmp op with
      | false => exact .inr rfl
      | true => exact .inl ⟨_, _, rfl, fun x hx => rfl⟩
  · split
    · exact .inl ⟨_, _, rfl, fun x hx => rfl⟩
    · exact .inl ⟨_, _, rfl, fun x hx => rfl⟩
    · exact .inr rfl
  · rename_i b j
    cases hb : a b with
    | dead => exact .inr (by split <;> first | rfl | simp_all)
    | vec _ _ _ _ _ _ => exact .inr (by split <;> first | rfl | simp_all)
    | box cs =>
      split
      · refine .inl ⟨_, _, rfl, fun x hx => by simp only [hx.1 _ _ (by simpa only [RefT, RefC] using hR) hb]; simp_all⟩
      · refine .inl ⟨_, _, rfl, fun x hx => by simp only [hx.1 _ _ (by simpa only [RefT, RefC] using hR) hb]; simp_all⟩
      · exact .inr rfl
  · split
    · exact .inl ⟨_, _, rfl, fun x hx => rfl⟩
    · exact .inl ⟨_, _, rfl, fun x hx => rfl⟩
    · exact .inr rfl
  · rename_i u v
    split
    · rename_i fs sz by_ z ht
      cases hr : eqFs θ tt u v fs with
      | none => exact .inr rfl
      | some r => exact .inl ⟨_, _, rfl, fun x hx => rfl⟩
    · rename_i fs sz by_ z ht
      cases hr : eqFs θ tt u v fs with
      | none => exact .inr rfl
      | some r => exact .inl ⟨_, _, rfl, fun x hx => rfl⟩
    · exact .inr rfl
  · exact .inr rfl
/-- One result, and one change of the memory. -/
def Same2 (R : Nat → Prop) (nid : Nat) (a : Ar) (F : Ar → Out) : Prop := (∃ pre v T, ∀ x, AEq R a x → Tr nid x T ∧ F x = .one pre v (T x)) ∨ F a = .bad
theorem Same1.two {F : Ar → Out} (h : Same1 R a F) : Same2 R nid a F := by
  rcases h with ⟨pre, v, h1, h2⟩ | h
  · exact .inl ⟨pre, v, _, fun x hx => ⟨.id, h2 x hx⟩⟩
  · exact .inr h
theorem frz_vec {x : Ar} {b L e sz : Nat} {f : Nat → Nat → DV} {wr st : Bool} (h : x b = .vec L e sz f wr st) : setB x b (.vec L e sz f false st) = frz x (.own b 0) := by simp only [frz, h]
theorem slice_mono (t : Nat) (v : TV) (lo hi mx : Option TV) (hR : RefT R v) : Same2 R nid a (fun x => doSlice θ tt x t v lo hi mx) := by
  unfold Same2 doSlice
  cases mx with
  | some m => exact .inr rfl
  | none =>
    dsimp only
    split
    · rename_i sz by_ z q s ht
      cases h1 : bnd 0 lo with
      | none => exact .inr rfl
      | some l =>
        cases h2 : bnd (θ.int (θ.ssize s)) hi with
        | none => exact .inr rfl
        | some h => exact .inl ⟨_, _, _, fun x _ => ⟨.id, rfl⟩⟩
    · rename_i e sz by_ z q len sz' f ht
      cases h0 : tt e with
      | none => exact .inr rfl
      | some ti =>
        cases h1 : bnd 0 lo with
        | none => exact .inr rfl
        | some l =>
          cases h2 : bnd (θ.int len) hi with
          | none => exact .inr rfl
          | some h =>
            dsimp only
            cases hk : Nat.beq ti.size sz' with
            | false => exact .inr rfl
            | true =>
              cases lo with
              | none => exact .inl ⟨_, _, _, fun x _ => ⟨.id, rfl⟩⟩
              | some q => exact .inl ⟨_, _, _, fun x _ => ⟨.id, rfl⟩⟩
    · rename_i e sz by_ z q b len ht
      cases hb : a b with
      | dead => exact .inr rfl
      | box cs => exact .inr rfl
      | vec L e' sz' f wr st =>
          cases h0 : tt e with
        | none => exact .inr rfl
        | some ti =>
          cases h1 : bnd 0 lo with
          | none => exact .inr rfl
          | some l =>
            cases h2 : bnd (θ.int len) hi with
            | none => exact .inr rfl
            | some h =>
              dsimp only
              cases hk : Nat.beq ti.size sz' with
              | false => exact .inr rfl
              | true =>
                cases lo with
                | none =>
                  refine .inl ⟨θ.inc h len, .c (.d (.sl (θ.nat h) sz' f)), fun x => frz x (.own b 0), fun x hx => ?_⟩
                  obtain ⟨wr', hx'⟩ := hx.2 _ _ _ _ _ _ _ (by simpa only [RefT, RefC] using hR) hb
                  exact ⟨.frz b (by rw [hx']; intro e; cases e) .id, by simp only [hx', hk, cond_true, frz_vec hx']⟩
                | some q =>
                  refine .inl ⟨θ.inc h len ∧ θ.inc l (θ.nat h), .c (.d (.sl (θ.nsub (θ.nat h) (θ.nat l)) sz' (fun i j => f (θ.nadd (θ.nat l) i) j))), fun x => frz x (.own b 0), fun x hx => ?_⟩
                  obtain ⟨wr', hx'⟩ := hx.2 _ _ _ _ _ _ _ (by simpa only [RefT, RefC] using hR) hb
                  exact ⟨.frz b (by rw [hx']; intro e; cases e) .id, by simp only [hx', hk, cond_true, frz_vec hx']⟩
    · exact .inr rfl
theorem alloc_mono (t : Nat) : Same2 R nid a (fun x => doAlloc tt x nid t) := by
  unfold Same2 doAlloc
  dsimp only
  split
  · rename_i n e sz by_ z q ht
    cases h0 : tt e with
    | none => exact .inr rfl
    | some ti =>
      dsimp only
      cases hk : Nat.beq n 0 with
      | true => exact .inr rfl
      | false => exact .inl ⟨_, _, _, fun x _ => ⟨.new nid _ (Nat.le_refl _) (by omega) .id, rfl⟩⟩
  · exact .inl ⟨_, _, _, fun x _ => ⟨.new nid _ (Nat.le_refl _) (by omega) .id, rfl⟩⟩
  · exact .inr rfl
theorem box_mono (t : Nat) (v : TV) : Same2 R nid a (fun x => doBox tt x nid t v) := by
  unfold Same2 doBox
  dsimp only
  split
  · exact .inl ⟨_, _, _, fun x _ => ⟨.new nid _ (Nat.le_refl _) (by omega) .id, rfl⟩⟩
  · exact .inr rfl
theorem build_mono (t : Nat) (ps : List (Nat × TV)) : Same2 R nid a (fun x => doBuild tt x t ps) := by
  unfold Same2 doBuild
  dsimp only
  split
  · rename_i fs sz by_ z q ht
    cases hk : allT tt fs with
    | false => exact .inr rfl
    | true =>
      split
      · exact .inl ⟨_, _, _, fun x _ => ⟨.id, rfl⟩⟩
      · exact .inr rfl
  · exact .inr rfl
theorem make_mono (t : Nat) (l c : TV) : Same2 R nid a (fun x => doMake θ tt x nid t l c) := by
  unfold Same2 doMake
  dsimp only
  split
  · rename_i e sz by_ z q kl ln kc cn ht h1 h2
    cases h0 : tt e with
    | none => exact .inr rfl
    | some ti => exact .inl ⟨_, _, _, fun x _ => ⟨.new nid _ (Nat.le_refl _) (by omega) .id, rfl⟩⟩
  · exact .inr rfl
theorem slOf_mono {v : TV} (hR : RefT R v) {r : Nat × Option (Nat × (Nat → Nat → DV))} (h : slOf a v = some r) {x : Ar} (hx : AEq R a x) : slOf x v = some r := by
  unfold slOf at h ⊢
  split at h
  · rename_i b len
    cases hb : a b with
    | dead => rw [hb] at h; cases h
    | box cs => rw [hb] at h; cases h
    | vec L e sz f wr st =>
      rw [hb] at h
      obtain ⟨wr', hx'⟩ := hx.2 _ _ _ _ _ _ _ (by simpa only [RefT, RefC] using hR) hb
      rw [hx']; exact h
  · exact h
  · exact h
  · cases h
theorem convert_mono (s t : Nat) (v : TV) (hR : RefT R v) : Same2 R nid a (fun x => doConvert θ tt x nid s t v) := by
  unfold Same2 doConvert
  dsimp only
  split
  · exact .inl ⟨_, _, _, fun x _ => ⟨.id, rfl⟩⟩
  · exact .inl ⟨_, _, _, fun x _ => ⟨.id, rfl⟩⟩
  · rename_i v o1 o2 v2 e sz by_ z q sz2 by2 z2 q2 hs ht
    cases h0 : tt e with
    | none => exact .inr (by simp)
    | some ti =>
      cases h1 : slOf a v with
      | none => exact .inr (by split <;> first | rfl | simp_all)
      | some r =>
        obtain ⟨n, q⟩ := r
        split
        · rename_i se be ze qe n' f hte hsl
          cases hsl
          cases hte
          refine .inl ⟨θ.isB n f, val (.string (θ.str n (fun i => iv (f i 0)))), _, fun x hx => ⟨.id, ?_⟩⟩
          simp only [slOf_mono hR h1 hx]
        · rename_i se be ze qe n' hte hsl
          cases hsl
          cases hte
          refine .inl ⟨True, val (.string ByteArray.empty), _, fun x hx => ⟨.id, ?_⟩⟩
          simp only [slOf_mono hR h1 hx]
        · exact .inr rfl
  · rename_i sz by_ z q e sz2 by2 z2 q2 str hs ht
    cases h0 : tt e with
    | none => exact .inr (by simp)
    | some ti =>
      split
      · exact .inl ⟨_, _, _, fun x _ => ⟨.new nid _ (Nat.le_refl _) (by omega) .id, rfl⟩⟩
      · exact .inr rfl
  · exact .inr rfl
def allC : List (Nat × TV) → List CV
  | [] => []
  | (_, v) :: r => match cellsOf v with
    | some l => l ++ allC r
    | none => allC r
theorem frzL_app : ∀ (l r : List CV) (x : Ar), frzL x (l ++ r) = frzL (frzL x l) r
  | [], r, x => rfl
  | c :: l, r, x => by simp only [List.cons_append, frzL]; exact frzL_app l r _
theorem frzL_mono : ∀ (l : List CV) {x y : Ar}, AEq R x y → AEq R (frzL x l) (frzL y l)
  | [], x, y, h => h
  | c :: l, x, y, h => frzL_mono l (frz_mono h)
theorem frzL_dead (l : List CV) : ∀ (x : Ar) (b : Nat), frzL x l b = .dead ↔ x b = .dead := by
  induction l with
  | nil => exact fun x b => Iff.rfl
  | cons c l ih => exact fun x b => (ih (frz x c) b).trans (frz_dead x c b)
def RefPs (R : Nat → Prop) : List (Nat × TV) → Prop
  | [] => True
  | (_, v) :: r => RefT R v ∧ RefPs R r
theorem refCs_of {v : TV} {cs : List CV} (h : RefT R v) (hc : cellsOf v = some cs) : RefCs R cs := by
  cases v with
  | c x =>
    have : cs = [x] := by cases x <;> first | (simp [cellsOf] at hc; done) | (simp only [cellsOf, Option.some.injEq] at hc; exact hc.symm)
    subst this
    simp only [RefCs]
    exact ⟨by simpa only [RefT] using h, trivial⟩
  | agg l =>
    simp only [cellsOf, Option.some.injEq] at hc
    subst hc
    simpa only [RefT] using h
  | tup l => simp [cellsOf] at hc
theorem rowsOf_mono (size : Nat) : ∀ {ps : List (Nat × TV)} {k : Nat} {a x : Ar} {rows : List (List DV)} {a' : Ar}, RefPs R ps → rowsOf a size k ps = some (rows, a') → AEq R a x → rowsOf x size k ps = some (rows, frzL x (allC ps))
  | [], k, a, x, rows, a', _, h, hx => by
    simp only [rowsOf, Option.some.injEq, Prod.mk.injEq] at h
    obtain ⟨rfl, rfl⟩ := h
    rfl
  | (i, v) :: ps, k, a, x, rows, a', hR, h, hx => by
    simp only [RefPs] at hR
    simp only [rowsOf] at h ⊢
    cases hik : Nat.beq i k with
    | false => rw [hik] at h; cases h
    | true =>
      rw [hik] at h
      simp only [cond_true] at h ⊢
      cases hcs : cellsOf v with
      | none => rw [hcs] at h; cases h
      | some cs =>
        rw [hcs] at h
        dsimp only at h ⊢
        cases hsz : Nat.beq (lenN cs) size with
        | false => rw [hsz] at h; cases h
        | true =>
          rw [hsz] at h
          simp only [cond_true] at h ⊢
          cases hds : dvsOf a cs with
          | none => rw [hds] at h; cases h
          | some p =>
            obtain ⟨ds, a1⟩ := p
            rw [hds] at h
            dsimp only at h
            have e1 := dvsOf_self hds
            have e2 := dvsOf_mono (refCs_of hR.1 hcs) hds hx
            subst e1
            cases hro : rowsOf (frzL a cs) size (k + 1) ps with
            | none => rw [hro] at h; cases h
            | some p2 =>
              obtain ⟨l, a2⟩ := p2
              rw [hro] at h
              simp only [Option.some.injEq, Prod.mk.injEq] at h
              obtain ⟨rfl, rfl⟩ := h
              simp only [allC, hcs, frzL_app, e2, rowsOf_mono size hR.2 hro (frzL_mono cs hx)]
theorem rowsOf_tr (size : Nat) : ∀ {ps : List (Nat × TV)} {k : Nat} {b0 a : Ar} {rows : List (List DV)} {a' : Ar}, rowsOf b0 size k ps = some (rows, a') → (∀ b, b0 b ≠ .dead → a b ≠ .dead) → ∀ {T : Ar → Ar}, Tr nid a T → Tr nid a (fun x => frzL (T x) (allC ps))
  | [], k, b0, a, rows, a', h, hb, T, hT => hT
  | (i, v) :: ps, k, b0, a, rows, a', h, hb, T, hT => by
    simp only [rowsOf] at h
    cases hik : Nat.beq i k with
    | false => rw [hik] at h; cases h
    | true =>
      rw [hik] at h
      simp only [cond_true] at h
      cases hcs : cellsOf v with
      | none => rw [hcs] at h; cases h
      | some cs =>
        rw [hcs] at h
        dsimp only at h
        cases hsz : Nat.beq (lenN cs) size with
        | false => rw [hsz] at h; cases h
        | true =>
          rw [hsz] at h
          simp only [cond_true] at h
          cases hds : dvsOf b0 cs with
          | none => rw [hds] at h; cases h
          | some p =>
            obtain ⟨ds, a1⟩ := p
            rw [hds] at h
            dsimp only at h
            cases hro : rowsOf a1 size (k + 1) ps with
            | none => rw [hro] at h; cases h
            | some p2 =>
              have hT1 := frzL_tr hds hb hT
              have e1 := dvsOf_self hds
              have := rowsOf_tr size hro (fun b h1 => hb b (fun h2 => h1 (by rw [e1]; exact (frzL_dead cs b0 b).2 h2))) hT1
              simpa only [allC, hcs, frzL_app] using this
theorem buildSlice_mono (t len : Nat) (ps : List (Nat × TV)) (hR : RefPs R ps) : Same2 R nid a (fun x => doBuildSlice tt x nid t len ps) := by
  unfold Same2 doBuildSlice
  dsimp only
  split
  · rename_i e sz by_ z q ht
    cases h0 : tt e with
    | none => exact .inr rfl
    | some ti =>
      dsimp only
      cases hro : rowsOf a ti.size 0 ps with
      | none => exact .inr rfl
      | some p =>
        obtain ⟨rows, a1⟩ := p
        dsimp only
        cases hg : (Nat.beq (lenN rows) len && Nat.ble (len * ti.size) 16777216 && Nat.ble len 16777216) with
        | false => exact .inr rfl
        | true =>
          refine .inl ⟨True, .c (.own nid len), fun x => setB (frzL x (allC ps)) nid (.vec len e ti.size (litF nilDV rows) true false), fun x hx => ?_⟩
          have e2 := rowsOf_mono ti.size hR hro hx
          exact ⟨.new nid _ (Nat.le_refl _) (by omega) (rowsOf_tr ti.size e2 (fun _ h => h) .id), by simp only [e2, hg, cond_true]⟩
  · exact .inr rfl
end
end Go.Proofs.YtlpcphndgjibpaaDoor.Rx
/- A region that draws its order does, in any order, as in its text's. No program's text. No condition. -/
namespace Go.Proofs.YtlpcphndgjibpaaDoor.Rx
open Go
theorem memB_iff : ∀ {l : List Nat} {n : Nat}, memB l n = true ↔ n ∈ l
  | [], n => by simp [memB]
  | x :: r, n => by
    simp only [memB, Bool.or_eq_true, memB_iff (l := r), List.mem_cons]
    constructor
    · rintro (h | h)
      · exact .inl (Nat.eq_of_beq_eq_true h).symm
      · exact .inr h
    · rintro (h | h)
      · subst h; exact .inl (Nat.beq_refl _)
      · exact .inr h
theorem opTmps_mem : ∀ {l : List Operand} {t : Nat}, Operand.tmp t ∈ l → t ∈ opTmps l
  | x :: r, t, h => by
    cases x with
    | tmp s =>
      rcases List.mem_cons.1 h with h | h
      · cases h; exact List.mem_cons_self
      · exact List.mem_cons_of_mem _ (opTmps_mem h)
    | _ =>
      rcases List.mem_cons.1 h with h | h
      · cases h
      · exact opTmps_mem (l := r) h
section
variable {θ : Pr} {tt : TT} {mv : List Nat} {R : Nat → Prop}
theorem evO_eq {e e2 : Nat → TV} {l : List Operand} (h : ∀ t ∈ opTmps l, e2 t = e t) {x : Operand} (hx : x ∈ l) : evO e2 x = evO e x := by
  cases x with
  | tmp t => exact h t (opTmps_mem hx)
  | _ => rfl
theorem evs_eq {e e2 : Nat → TV} {l : List Operand} (h : ∀ t ∈ opTmps l, e2 t = e t) {r : List Operand} (hr : ∀ x ∈ r, x ∈ l) : r.map (evO e2) = r.map (evO e) :=
  List.map_congr_left fun x hx => evO_eq h (hr x hx)
theorem opt_eq {e e2 : Nat → TV} {l : List Operand} (h : ∀ t ∈ opTmps l, e2 t = e t) {r : Option Operand} (hr : ∀ x ∈ optL r, x ∈ l) : r.map (evO e2) = r.map (evO e) := by
  cases r with
  | none => rfl
  | some x => simp only [Option.map_some]; rw [evO_eq h (hr x (by simp [optL]))]
theorem evP_eq {e e2 : Nat → TV} {ps : List (Nat × Operand)} (h : ∀ t ∈ opTmps (ps.map (·.2)), e2 t = e t) : evP e2 ps = evP e ps := by
  unfold evP
  refine List.map_congr_left fun p hp => ?_
  rw [evO_eq h (List.mem_map.2 ⟨p, hp, rfl⟩)]
/-- What an operation comes to hangs on the operands that it looks at. -/
theorem doOp_env {e e2 : Nat → TV} {x : Ar} {nid : Nat} {op : Op} (h : ∀ t ∈ opTmps (ops1 op), e2 t = e t) : doOp θ tt e2 x nid op = doOp θ tt e x nid op := by
  cases op with
  | move y => simp only [doOp]; rw [evO_eq h (by simp [ops1])]
  | assign y => simp only [doOp]; rw [evO_eq h (by simp [ops1])]
  | pick c y z => simp only [doOp]; rw [evO_eq h (x := c) (by simp [ops1]), evO_eq h (x := y) (by simp [ops1]), evO_eq h (x := z) (by simp [ops1])]
  | alloc t => rfl
  | box t v => simp only [doOp]; rw [evO_eq h (by simp [ops1])]
  | build t ps => simp only [doOp]; rw [evP_eq h]
  | buildSlice t n ps => simp only [doOp]; rw [evP_eq h]
  | load t y => simp only [doOp]; rw [evO_eq h (by simp [ops1])]
  | store t y z => simp only [doOp]; rw [evO_eq h (x := y) (by simp [ops1]), evO_eq h (x := z) (by simp [ops1])]
  | nilCheck y => simp only [doOp]; rw [evO_eq h (by simp [ops1])]
  | binOp op t y z yt => simp only [doOp]; rw [evO_eq h (x := y) (by simp [ops1]), evO_eq h (x := z) (by simp [ops1])]
  | unOp op t y => simp only [doOp]; rw [evO_eq h (by simp [ops1])]
  | convert s t y => simp only [doOp]; rw [evO_eq h (by simp [ops1])]
  | makeFunc fn first caps =>
    cases fn with
    | func f => simp only [doOp]; rw [evs_eq h (r := caps.toList) (fun x hx => by simp only [ops1]; exact List.mem_append_right _ hx)]
    | _ => rfl
  | makeSlice t l c => simp only [doOp]; rw [evO_eq h (x := l) (by simp [ops1]), evO_eq h (x := c) (by simp [ops1])]
  | slice t y lo hi mx =>
    simp only [doOp]
    rw [evO_eq h (x := y) (by simp [ops1]), opt_eq h (r := lo) (fun x hx => by simp only [ops1]; simp [hx]), opt_eq h (r := hi) (fun x hx => by simp only [ops1]; simp [hx]), opt_eq h (r := mx) (fun x hx => by simp only [ops1]; simp [hx])]
  | fieldAddr t y f => simp only [doOp]; rw [evO_eq h (by simp [ops1])]
  | field t y f => simp only [doOp]; rw [evO_eq h (by simp [ops1])]
  | indexAddr t y i => simp only [doOp]; rw [evO_eq h (x := y) (by simp [ops1]), evO_eq h (x := i) (by simp [ops1])]
  | index t y i => simp only [doOp]; rw [evO_eq h (x := y) (by simp [ops1]), evO_eq h (x := i) (by simp [ops1])]
  | extract t i => simp only [doOp]; rw [evO_eq h (by simp [ops1])]
  | call c =>
    simp only [doOp]
    cases hc : c.callee with
    | value f =>
      dsimp only
      have hl : ops1 (.call c) = [f] ++ c.args.toList := by simp only [ops1, hc]
      rw [hl] at h
      rw [evO_eq h (x := f) (by simp), evs_eq h (r := c.args.toList) (fun x hx => by simp only [List.mem_append]; exact .inr hx)]
    | builtin b =>
      dsimp only
      have hl : ops1 (.call c) = [] ++ c.args.toList := by simp only [ops1, hc]
      rw [hl] at h
      rw [evs_eq h (r := c.args.toList) (fun x hx => by simpa using hx)]
    | invoke r m => rfl
  | _ => rfl
theorem refPs_of {e : Nat → TV} : ∀ {ps : List (Nat × Operand)}, (∀ x ∈ ps.map (·.2), RefT R (evO e x)) → RefPs R (evP e ps)
  | [], _ => by simp only [evP, List.map_nil, RefPs]
  | p :: r, h => by
    have := refPs_of (ps := r) fun x hx => h x (List.mem_cons_of_mem _ hx)
    simp only [evP, List.map_cons, RefPs] at this ⊢
    exact ⟨h _ List.mem_cons_self, this⟩
theorem refTs_map {e : Nat → TV} : ∀ {l : List Operand}, (∀ x ∈ l, RefT R (evO e x)) → RefTs R (l.map (evO e))
  | [], _ => by simp only [List.map_nil, RefTs]
  | x :: r, h => by
    simp only [List.map_cons, RefTs]
    exact ⟨h x List.mem_cons_self, refTs_map fun y hy => h y (List.mem_cons_of_mem _ hy)⟩
theorem appN_nil {α : Type} : ∀ (l : List α), appN l [] = l
  | [] => rfl
  | x :: r => by simp only [appN, appN_nil r]
/-- An operation that only reads, or makes new memory. -/
theorem op_mono {e : Nat → TV} {a : Ar} {nid : Nat} {op : Op} (hc : cls mv op ≤ 1) (hR : ∀ x ∈ ops1 op, RefT R (evO e x)) :
    Same2 R nid a (fun x => doOp θ tt e x nid op) ∨ (∃ t u v, ∀ x n, doOp θ tt e x n op = .pick t u v) ∨ (∃ f l, memB mv f = false ∧ RefTs R l ∧ ∀ x n, doOp θ tt e x n op = .call f l) := by
  cases op with
  | move y => exact .inl (.inl ⟨_, _, _, fun x _ => ⟨.id, rfl⟩⟩)
  | assign y => exact .inl (.inl ⟨_, _, _, fun x _ => ⟨.id, rfl⟩⟩)
  | pick c y z =>
    simp only [doOp]
    cases boolOf (evO e c) with
    | none => exact .inl (.inr rfl)
    | some t => exact .inr (.inl ⟨_, _, _, fun x n => rfl⟩)
  | alloc t => exact .inl (alloc_mono t)
  | box t v => exact .inl (box_mono t _)
  | build t ps => exact .inl (build_mono t _)
  | buildSlice t n ps => exact .inl (buildSlice_mono t n _ (refPs_of hR))
  | load t y => exact .inl (load_mono t _ (hR y (by simp [ops1]))).two
  | nilCheck y => exact .inl (nil_mono _ (hR y (by simp [ops1]))).two
  | binOp op t y z yt => exact .inl (bin_mono op t _ _ (hR y (by simp [ops1]))).two
  | unOp op t y =>
    left
    simp only [doOp]
    unfold doUn
    split
    · exact .inl ⟨_, _, _, fun x _ => ⟨.id, rfl⟩⟩
    · exact .inl ⟨_, _, _, fun x _ => ⟨.id, rfl⟩⟩
    · exact .inl ⟨_, _, _, fun x _ => ⟨.id, rfl⟩⟩
    · exact .inr rfl
  | convert s t y => exact .inl (convert_mono s t _ (hR y (by simp [ops1])))
  | makeFunc fn first caps =>
    left
    cases fn with
    | func f =>
      simp only [doOp]
      split
      · split
        · exact .inl ⟨_, _, _, fun x _ => ⟨.id, rfl⟩⟩
        · exact .inr rfl
      · exact .inr rfl
    | _ => exact .inr rfl
  | makeSlice t l c => exact .inl (make_mono t _ _)
  | slice t y lo hi mx => exact .inl (slice_mono t _ _ _ _ (hR y (by simp [ops1])))
  | fieldAddr t y f => exact .inl (fieldAddr_mono t _ f (hR y (by simp [ops1]))).two
  | field t y f =>
    left
    simp only [doOp]
    unfold doField
    split
    · split
      · split
        · split
          · exact .inl ⟨_, _, _, fun x _ => ⟨.id, rfl⟩⟩
          · exact .inr rfl
        · exact .inr rfl
      · exact .inr rfl
    · exact .inr rfl
  | indexAddr t y i => exact .inl (indexAddr_mono t _ _ (hR y (by simp [ops1]))).two
  | index t y i =>
    left
    simp only [doOp]
    unfold doIndex
    split
    · exact .inl ⟨_, _, _, fun x _ => ⟨.id, rfl⟩⟩
    · exact .inr rfl
  | extract t i =>
    left
    simp only [doOp]
    unfold doExtract
    split
    · split
      · exact .inl ⟨_, _, _, fun x _ => ⟨.id, rfl⟩⟩
      · exact .inr rfl
    · exact .inr rfl
  | call c =>
    simp only [doOp]
    cases hcc : c.callee with
    | value f =>
      cases f with
      | func g =>
        have : memB mv g = false := by
          simp only [cls, hcc] at hc
          cases hm : memB mv g with
          | false => rfl
          | true => rw [hm] at hc; simp at hc
        refine .inr (.inr ⟨g, appN (c.args.toList.map (evO e)) [], this, ?_, fun x n => rfl⟩)
        rw [appN_nil]
        exact refTs_map fun x hx => hR x (by simp only [ops1, hcc]; exact List.mem_append_right _ hx)
      | _ => simp [cls, hcc] at hc
    | invoke r m => simp [cls, hcc] at hc
    | builtin b =>
      left
      dsimp only
      have hargs : ∀ x ∈ c.args.toList, RefT R (evO e x) := fun x hx => hR x (by simp only [ops1, hcc, List.nil_append]; exact hx)
      generalize hts : c.argTypes.toList = ts
      generalize hxs : c.args.toList.map (evO e) = xs
      unfold doBuiltin
      split
      · rename_i t ts x
        obtain ⟨p, hp, rfl⟩ := map_one hxs
        exact (len_mono t _ (hargs p (by rw [hp]; simp))).two
      · simp [cls, hcc] at hc
      · rename_i ts k x k' y
        cases hk : kindEq k k' with
        | false => exact .inr (by simp)
        | true => exact .inl ⟨_, _, _, fun x _ => ⟨.id, rfl⟩⟩
      · rename_i ts k x k' y
        cases hk : kindEq k k' with
        | false => exact .inr (by simp)
        | true => exact .inl ⟨_, _, _, fun x _ => ⟨.id, rfl⟩⟩
      · simp [cls, hcc] at hc
      · simp [cls, hcc] at hc
      · exact .inr rfl
  | _ => first | exact .inl (.inr rfl) | (simp [cls] at hc; done)
/-- One that looks at no memory. -/
theorem op_zero {e : Nat → TV} {op : Op} (hc : cls mv op = 0) : (∃ pre v, ∀ x n, doOp θ tt e x n op = .one pre v x) ∨ (∃ t u v, ∀ x n, doOp θ tt e x n op = .pick t u v) ∨ (∀ x n, doOp θ tt e x n op = .bad) := by
  cases op with
  | move y => exact .inl ⟨_, _, fun x n => rfl⟩
  | assign y => exact .inl ⟨_, _, fun x n => rfl⟩
  | pick c y z =>
    simp only [doOp]
    cases boolOf (evO e c) with
    | none => exact .inr (.inr fun _ _ => rfl)
    | some t => exact .inr (.inl ⟨_, _, _, fun x n => rfl⟩)
  | unOp op t y =>
    simp only [doOp]
    unfold doUn
    split
    · exact .inl ⟨_, _, fun x n => rfl⟩
    · exact .inl ⟨_, _, fun x n => rfl⟩
    · exact .inl ⟨_, _, fun x n => rfl⟩
    · exact .inr (.inr fun _ _ => rfl)
  | extract t i =>
    simp only [doOp]
    unfold doExtract
    split
    · split
      · exact .inl ⟨_, _, fun x n => rfl⟩
      · exact .inr (.inr fun _ _ => rfl)
    · exact .inr (.inr fun _ _ => rfl)
  | call c =>
    simp only [cls] at hc
    split at hc
    · rename_i f hf
      cases hm : memB mv f <;> rw [hm] at hc <;> cases hc
    all_goals cases hc
  | _ => cases hc
end
/-- Runs, is passed by, or neither. -/
def guardB (ops : List Oper) (o : Oper) (e : Nat → TV) : Option Bool :=
  match o.guard with
  | none => some true
  | some (j, want) => match nth ops j with
    | none => none
    | some g => match g.dst with
      | none => none
      | some d => match e d with
        | .c (.d (.sc (.bool t))) => some (bif t then want else !want)
        | _ => none
theorem guardB_env {ops : List Oper} {o : Oper} {e e2 : Nat → TV} (h : ∀ t ∈ guardT ops o, e2 t = e t) : guardB ops o e2 = guardB ops o e := by
  unfold guardB
  cases hg : o.guard with
  | none => rfl
  | some p =>
    obtain ⟨j, want⟩ := p
    dsimp only
    cases hj : nth ops j with
    | none => rfl
    | some g =>
      dsimp only
      cases hd : g.dst with
      | none => rfl
      | some d =>
        dsimp only
        rw [h d (by simp [guardT, hg, hj, hd])]
theorem doOper_iff {θ : Pr} {tt : TT} {ops : List Oper} {i : Nat} {o : Oper} {st : St} {K : St → Prop} :
    doOper θ tt ops i o st K ↔ okDst st.nt o.dst = true ∧ match guardB ops o st.env with | none => False | some true => runOp θ tt i o st K st.env | some false => K { st with env := putD st.env o.dst undefV } := by
  unfold doOper guardB
  cases hok : okDst st.nt o.dst with
  | false => simp
  | true =>
    simp only [cond_true, true_and]
    cases hg : o.guard with
    | none => exact Iff.rfl
    | some p =>
      obtain ⟨j, want⟩ := p
      dsimp only
      cases hj : nth ops j with
      | none => exact Iff.rfl
      | some g =>
        dsimp only
        cases hd : g.dst with
        | none => exact Iff.rfl
        | some d =>
          dsimp only
          have hpid : ∀ b, st.env d = .c (.d (.sc (.bool b))) → put st.env d (val (.bool b)) = st.env := fun b hb => put_id hb
          split
          · rename_i t ht
            cases t with
            | true =>
              rw [hpid true ht]
              simp only [ht]
              cases want <;> exact Iff.rfl
            | false =>
              rw [hpid false ht]
              simp only [ht]
              cases want <;> exact Iff.rfl
          · rename_i hne
            have hn : (match st.env d with | .c (.d (.sc (.bool t))) => some (bif t then want else !want) | _ => none : Option Bool) = none := by
              split
              · rename_i t ht; exact absurd ht (hne t)
              · rfl
            rw [hn]
def CallMono (mv : List Nat) (call : CallT) : Prop := ∀ (f : FuncId) (args : List TV) (st : St) (K : TV → St → Prop), memB mv f = false → call f args st K → ∀ R : Nat → Prop, RefTs R args →
  ∃ v T, K v { st with ar := T st.ar } ∧ ∀ (st2 : St) (K2 : TV → St → Prop), st2.nb = st.nb → AEq R st.ar st2.ar → Tr st.nb st2.ar T ∧ (K2 v { st2 with ar := T st2.ar } → call f args st2 K2)
def CallEnv (call : CallT) : Prop := ∀ (f : FuncId) (args : List TV) (st : St) (K : TV → St → Prop), call f args st K →
  ∃ v ar', K v { st with ar := ar' } ∧ (∀ b, st.ar b = .dead → ar' b = .dead ∨ (st.nb ≤ b ∧ b < st.nb + 8)) ∧ ∀ (st2 : St) (K2 : TV → St → Prop), st2.nb = st.nb → st2.ar = st.ar → K2 v { st2 with ar := ar' } → call f args st2 K2
section
variable {tt : TT} {mv : List Nat} {R : Nat → Prop} {call : CallT} {loop : LoopT} {ops : List Oper} {i : Nat} {o : Oper} {st : St} {K : St → Prop}
theorem looks_op {t : Nat} (h : t ∈ opTmps (ops1 o.op)) : t ∈ looks ops o := by unfold looks; exact List.mem_append_right _ h
theorem looks_guard {t : Nat} (h : t ∈ guardT ops o) : t ∈ looks ops o := by unfold looks; exact List.mem_append_left _ h
theorem ref_ops {e : Nat → TV} {l : List Operand} (h : ∀ t ∈ opTmps l, RefT R (e t)) : ∀ x ∈ l, RefT R (evO e x) := by
  intro x hx
  cases x with
  | tmp t => exact h t (opTmps_mem hx)
  | const v =>
    simp only [evO, constV]
    cases isCell v <;> simp [RefT, RefC]
  | global g => simp [evO, RefT, RefC]
  | func f => simp [evO, RefT, RefC, RefCs]
theorem oper_mono (hcm : CallMono mv call) (hcls : cls mv o.op ≤ 1) (h : doOper (std call loop) tt ops i o st K) (hR : ∀ t ∈ looks ops o, RefT R (st.env t)) :
    ∃ v T, K { st with env := putD st.env o.dst v, ar := T st.ar } ∧ ∀ (st2 : St) (K2 : St → Prop), st2.nb = st.nb → st2.nt = st.nt → (∀ t ∈ looks ops o, st2.env t = st.env t) → AEq R st.ar st2.ar →
      Tr (st.nb + 8 * i) st2.ar T ∧ (K2 { st2 with env := putD st2.env o.dst v, ar := T st2.ar } → doOper (std call loop) tt ops i o st2 K2) := by
  rw [doOper_iff] at h
  obtain ⟨hok, h⟩ := h
  cases hg : guardB ops o st.env with
  | none => rw [hg] at h; exact h.elim
  | some b =>
    rw [hg] at h
    have hg2 : ∀ st2 : St, (∀ t ∈ looks ops o, st2.env t = st.env t) → guardB ops o st2.env = some b := fun st2 he => (guardB_env fun t ht => he t (looks_guard ht)).trans hg
    cases b with
    | false =>
      refine ⟨undefV, fun x => x, h, fun st2 K2 hnb hnt he hx => ⟨.id, fun hk => ?_⟩⟩
      refine doOper_iff.2 ⟨by rw [hnt]; exact hok, ?_⟩
      rw [hg2 st2 he]
      exact hk
    | true =>
      dsimp only at h
      unfold runOp at h
      have hmon := op_mono (θ := std call loop) (tt := tt) (mv := mv) (R := R) (e := st.env) (a := st.ar) (nid := st.nb + 8 * i) hcls (ref_ops fun t ht => hR t (looks_op ht))
      have henv : ∀ (st2 : St) (x : Ar) (n : Nat), (∀ t ∈ looks ops o, st2.env t = st.env t) → doOp (std call loop) tt st2.env x n o.op = doOp (std call loop) tt st.env x n o.op := fun st2 x n he => doOp_env fun t ht => he t (looks_op ht)
      rcases hmon with hm | ⟨t, u, v, hm⟩ | ⟨f, l, hf, hargs, hm⟩
      · rcases hm with ⟨pre, v, T, hm⟩ | hm
        · obtain ⟨_, hself⟩ := hm st.ar (AEq.refl R _)
          dsimp only at hself
          rw [hself] at h
          refine ⟨v, T, h.2, fun st2 K2 hnb hnt he hx => ?_⟩
          obtain ⟨htr, h2⟩ := hm st2.ar hx
          dsimp only at h2
          refine ⟨htr, fun hk => ?_⟩
          refine doOper_iff.2 ⟨by rw [hnt]; exact hok, ?_⟩
          rw [hg2 st2 he]
          dsimp only
          unfold runOp
          rw [← hnb] at h2
          rw [henv st2 _ _ he, h2]
          exact ⟨h.1, hk⟩
        · dsimp only at hm
          rw [hm] at h; exact h.elim
      · rw [hm] at h
        refine ⟨(match t with | true => u | false => v), fun x => x, by cases t <;> exact h, fun st2 K2 hnb hnt he hx => ⟨.id, fun hk => ?_⟩⟩
        refine doOper_iff.2 ⟨by rw [hnt]; exact hok, ?_⟩
        rw [hg2 st2 he]
        dsimp only
        unfold runOp
        rw [henv st2 _ _ he, hm]
        cases t <;> exact hk
      · rw [hm] at h
        obtain ⟨v, T, h1, h2⟩ := hcm f l _ _ hf h R hargs
        refine ⟨v, T, h1, fun st2 K2 hnb hnt he hx => ?_⟩
        obtain ⟨htr, h3⟩ := h2 { st2 with nb := st2.nb + 8 * i } (fun v s => K2 { s with env := putD s.env o.dst v, nb := st2.nb }) (by dsimp only; rw [hnb]) hx
        refine ⟨htr, fun hk => ?_⟩
        refine doOper_iff.2 ⟨by rw [hnt]; exact hok, ?_⟩
        rw [hg2 st2 he]
        dsimp only
        unfold runOp
        rw [henv st2 _ _ he, hm]
        exact h3 hk
theorem oper_zero (hcls : cls mv o.op = 0) (h : doOper (std call loop) tt ops i o st K) :
    ∃ v, K { st with env := putD st.env o.dst v } ∧ ∀ (st2 : St) (K2 : St → Prop), st2.nt = st.nt → (∀ t ∈ looks ops o, st2.env t = st.env t) → K2 { st2 with env := putD st2.env o.dst v } → doOper (std call loop) tt ops i o st2 K2 := by
  rw [doOper_iff] at h
  obtain ⟨hok, h⟩ := h
  cases hg : guardB ops o st.env with
  | none => rw [hg] at h; exact h.elim
  | some b =>
    rw [hg] at h
    have hg2 : ∀ st2 : St, (∀ t ∈ looks ops o, st2.env t = st.env t) → guardB ops o st2.env = some b := fun st2 he => (guardB_env fun t ht => he t (looks_guard ht)).trans hg
    cases b with
    | false =>
      refine ⟨undefV, h, fun st2 K2 hnt he hk => ?_⟩
      refine doOper_iff.2 ⟨by rw [hnt]; exact hok, ?_⟩
      rw [hg2 st2 he]
      exact hk
    | true =>
      dsimp only at h
      unfold runOp at h
      have henv : ∀ (st2 : St) (x : Ar) (n : Nat), (∀ t ∈ looks ops o, st2.env t = st.env t) → doOp (std call loop) tt st2.env x n o.op = doOp (std call loop) tt st.env x n o.op := fun st2 x n he => doOp_env fun t ht => he t (looks_op ht)
      rcases op_zero (θ := std call loop) (tt := tt) (e := st.env) hcls with ⟨pre, v, hm⟩ | ⟨t, u, v, hm⟩ | hm
      · rw [hm] at h
        refine ⟨v, h.2, fun st2 K2 hnt he hk => ?_⟩
        refine doOper_iff.2 ⟨by rw [hnt]; exact hok, ?_⟩
        rw [hg2 st2 he]
        dsimp only
        unfold runOp
        rw [henv st2 _ _ he, hm]
        exact ⟨h.1, hk⟩
      · rw [hm] at h
        refine ⟨(match t with | true => u | false => v), by cases t <;> exact h, fun st2 K2 hnt he hk => ?_⟩
        refine doOper_iff.2 ⟨by rw [hnt]; exact hok, ?_⟩
        rw [hg2 st2 he]
        dsimp only
        unfold runOp
        rw [henv st2 _ _ he, hm]
        cases t <;> exact hk
      · rw [hm] at h; exact h.elim
end
end Go.Proofs.YtlpcphndgjibpaaDoor.Rx
