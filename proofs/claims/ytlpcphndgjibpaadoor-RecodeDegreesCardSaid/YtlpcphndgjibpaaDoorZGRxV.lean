/- From a contract of the walk to a call's own words, and back. No condition. -/
import Derived.Test.YtlpcphndgjibpaaDoorZGRxU
import Derived.Below
namespace Go.Proofs.YtlpcphndgjibpaaDoor.Rx
open Go Go.Proofs Go.Proofs.YtlpcphndgjibpaaDoor.P Go.RowKit Go.Proofs.YtlpcphndgjibpaaDoorW.PrintWords Go.Proofs.YtlpcphndgjibpaaDoorW.PrintLast Go.Proofs.YtlpcphndgjibpaaDoorW.PrintMore
set_option linter.unusedVariables false
theorem TabOk.lt {w : World} (h : TabOk w) : N0 ≤ w.heap.size := by
  have := World.block_lt_of_cell? w _ (h.out 0 (by decide))
  exact this
theorem tab_stable (w w' : World) (h : G0 w) (hs : w.heap.size ≤ w'.heap.size) (hk : ∀ k, k < N0 → w'.heap[k]? = w.heap[k]?) : G0 w' := by
  have h' : TabOk w := h
  exact ⟨fun j hj => (World.cell?_of_block (hk 0 (by decide))).trans (h'.out j hj)⟩
def ctx (w : World) (h : G0 w) : Ctx where
  w0 := w
  S0 := fun k _ => k < w.heap.size
  ρ0 := fun _ => .free
  F := fun _ => False
  N := N0
  G := G0
  stable := tab_stable
  g0 := h
  n0 := TabOk.lt h
  f0 := fun _ h => h.elim
  s0 := fun _ _ h => h
theorem ctx_ok (w : World) (h : G0 w) : Ok (ctx w h) w (ctx w h).S0 (ctx w h).ρ0 (arOf []) where
  blk := fun b => by unfold RelB; rw [arOf_out [] b (Nat.zero_le _)]; trivial
  inj := fun b b' k hb => by cases hb
  own := fun b k hb => by cases hb
  os := rfl
  tape := rfl
  output := rfl
  size := Nat.le_refl _
  block := fun _ _ _ => rfl
  cells := fun _ _ _ => rfl
  sub := fun _ _ h => h
  new := fun _ _ h => .inl h
  lt := fun _ _ h => h
  freed := fun b _ => arOf_out [] b (Nat.zero_le _)
  used0 := fun b h => h
  keep := fun b _ hd => absurd (arOf_out [] b (Nat.zero_le _)) hd
  vsz := fun b k L e sz f wr st hb => by cases hb
theorem calls_of_ac {f : FuncId} {args : List TV} {r : Bool} {w : World} {vs : List Value} (hac : AC Tryd.prog N0 G0 f [] args [] (boolV r)) (hG : G0 w) (hvs : RelTs w (ctx w hG).S0 (ctx w hG).ρ0 (arOf []) args vs) :
    Calls Tryd.prog f vs.toArray w fun e w' => e = .returned (.bool r) ∧ Below w.heap.size w w' := by
  refine (hac.2 (ctx w hG) vs rfl rfl (ctx_ok w hG) (fun b hb => absurd rfl hb) hvs).mono ?_
  rintro e w' ⟨v, S', ρ', rfl, hok, _, hr⟩
  refine ⟨?_, hok.os, hok.tape, hok.output, hok.size, fun k hk => hok.block k hk (fun h => h.elim)⟩
  have := relT_sc hr
  rw [this]
section
variable {w : World} {S : Stab}
/-- A row that is read, as data. -/
theorem relD_row {α : Type} (d : Kd α) (c : α → Nat → DV) (z : α) {A : Option Addr} {n cap : Nat} {xs : List α} (h : d.C w A n xs) (hc : n ≤ cap) (h0 : 0 < d.sz) (hS : ∀ k o, k < w.heap.size → S k o)
    (hK : ∀ x cs, d.K w x cs → ∀ j, j < d.sz → ∃ u, cs[j]? = some u ∧ RelD w S (c x j) u) : RelD w S (.sl n d.sz (fun i j => c (xs.getD i z) j)) (.slice A n cap) := by
  refine ⟨A, cap, rfl, hc, trivial, fun hp => ?_⟩
  obtain ⟨hl, _, hr0⟩ := h
  obtain ⟨ad, rfl, hr⟩ := hr0 hp
  have hget : ∀ i, i < n → ∃ cs, cs.length = d.sz ∧ d.K w (xs.getD i z) cs ∧ ∀ q u, cs[q]? = some u → w.cell? (ad.add (i * d.sz + q)) = some u := by
    intro i hi
    have hx : xs[i]? = some (xs.getD i z) := by rw [List.getD_eq_getElem?_getD, List.getElem?_eq_getElem (by omega)]; rfl
    exact hr i _ hx
  have hspot : ad.spot = none := by
    obtain ⟨cs, h1, h2, h3⟩ := hget 0 hp
    obtain ⟨u, h4, _⟩ := hK _ _ h2 0 h0
    have h5 := h3 0 u h4
    rw [Nat.zero_mul, Nat.add_zero] at h5
    have h6 : ad.add 0 = ad := by simp [Addr.add]
    rw [h6] at h5
    unfold World.cell? at h5
    cases hs : ad.spot with
    | none => rfl
    | some s =>
      rw [hs] at h5
      split at h5
      · simp at h5
      · cases h5
  obtain ⟨k, o, sp⟩ := ad
  simp only at hspot
  subst hspot
  have hadd : ∀ m, (⟨k, o, none⟩ : Addr).add m = ⟨k, o + m, none⟩ := by intro m; unfold Addr.add; split <;> simp_all
  refine ⟨k, o, rfl, fun i hi j hj => ?_⟩
  obtain ⟨cs, h1, h2, h3⟩ := hget i hi
  obtain ⟨u, h4, h5⟩ := hK _ _ h2 j hj
  have h6 := h3 j u h4
  rw [hadd, ← Nat.add_assoc] at h6
  exact ⟨hS _ _ (World.block_lt_of_cell? w _ h6), u, h6, h5⟩
theorem relD_ints {k : IntKind} {A : Option Addr} {cap : Nat} {xs : List Int} (h : (Kd.int k).C w A xs.length xs) (hc : xs.length ≤ cap) (hS : ∀ k o, k < w.heap.size → S k o) : RelD w S (eI Θ k xs) (.slice A xs.length cap) :=
  relD_row (Kd.int k) (fun x _ => .sc (.int k x)) 0 h hc Nat.one_pos hS (fun x cs hx j hj => by
    obtain rfl : cs = [.int k x] := hx
    have : j = 0 := by
      have h1 : (Kd.int k).sz = 1 := rfl
      omega
    subst this
    exact ⟨_, rfl, rfl, rfl⟩)
end
end Go.Proofs.YtlpcphndgjibpaaDoor.Rx
