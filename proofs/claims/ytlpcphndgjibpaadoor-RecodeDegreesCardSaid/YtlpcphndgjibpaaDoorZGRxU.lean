/- What the walks of a seat's plain functions share: the primitive functions' words, rules for loops and calls, and how what is told is compared. No condition. -/
import Derived.Test.YtlpcphndgjibpaaDoorZGRxT
import Derived.Test.YtlpcphndgjibpaaDoorZGF
namespace Go.Proofs.YtlpcphndgjibpaaDoor.Rx
open Go Go.Proofs Go.Proofs.YtlpcphndgjibpaaDoor.P Go.RowKit Go.Proofs.YtlpcphndgjibpaaDoorW.PrintWords Go.Proofs.YtlpcphndgjibpaaDoorW.PrintLast Go.Proofs.YtlpcphndgjibpaaDoorW.PrintMore
set_option linter.unusedVariables false
set_option linter.unusedSimpArgs false
def G0 : World → Prop := TabOk
abbrev N0 : Nat := 1
abbrev MV : List Nat := [55]
def Θ : Pr := stdP Tryd.prog N0 G0 MV
theorem hΘ {θ : Pr} (h : Θ = θ) : stdP Tryd.prog N0 G0 MV = θ := h
section
variable (θ : Pr)
abbrev eI (k : IntKind) (l : List Int) : DV := .sl (θ.len l) 1 (fun i _ => .sc (.int k (θ.get l i 0)))
abbrev bI (k : IntKind) (e : Nat) (l : List Int) : Blk := .vec (θ.len l) e 1 (fun i _ => .sc (.int k (θ.get l i 0))) true false
abbrev bIt (k : IntKind) (e : Nat) (l : List Int) : Blk := .vec (θ.len l) e 1 (fun i _ => .sc (.int k (θ.get l i 0))) true true
abbrev eB (l : List Bool) : DV := .sl (θ.len l) 1 (fun i _ => .sc (.bool (θ.get l i false)))
abbrev bB (e : Nat) (l : List Bool) : Blk := .vec (θ.len l) e 1 (fun i _ => .sc (.bool (θ.get l i false))) true false
end
abbrev int64 (n : Int) : TV := .c (.d (.sc (.int .i64 n)))
abbrev uint64 (n : Int) : TV := .c (.d (.sc (.int .u64 n)))
abbrev boolV (n : Bool) : TV := .c (.d (.sc (.bool n)))
theorem ac_mk {f : FuncId} {fn : Func} {c : Code} (hf : Tryd.prog.funcs[f]? = some fn) (hb : fn.body = some c) (hn : (fn.name == "runtime.NumGoroutine") = false)
    {A : List Blk} {args : List TV} {R : List Blk} {res : TV} (hnt : Nat.ble args.length fn.ntmps = true)
    (h : exec Θ tt MV c ⟨envA args, arOf A, A.length, fn.ntmps, A.length⟩ (finK Θ tt fn.results.toList R res)) : AC Tryd.prog N0 G0 f A args R res :=
  AC.mk MV (by kernel_rfl) ttok hf hb hn hnt h
theorem nw64 (n : Int) : IntKind.i64.wrap n = wrap64 n := by unfold wrap64; exact IntKind.wrap_i64 n
theorem nw8 (n : Int) : IntKind.u8.wrap n = n % 256 := by
  first | rfl | (unfold IntKind.wrap; rfl) | (simp [IntKind.wrap]; done)
theorem nshr (k : IntKind) (a b : Int) : a.fdiv (2 ^ min b.toNat k.bits) = shr k a b := by
  unfold shr
  rw [Int.fdiv_eq_ediv_of_nonneg]
  exact Int.le_of_lt (Int.pow_pos (by decide))
theorem nshl (k : IntKind) (a b : Int) : k.wrap (a * 2 ^ min b.toNat k.bits) = shl k a b := rfl
theorem nrd (l : List Int) (i : Int) : l.getD i.toNat 0 = rd l i := rfl
theorem nrdB (l : List Bool) (i : Int) : l.getD i.toNat false = rdOf false l i := rfl
theorem nbyte (s : ByteArray) (i : Int) : byteAt s i = bt s i := rfl
theorem nstr (l : List Int) : strOf l.length (fun i => l.getD i 0) = strOfNums l := by
  unfold strOf
  congr 1
  apply List.ext_getElem
  · simp
  · intro i h1 h2
    have : i < l.length := by simpa using h1
    simp [this]
theorem nmx (a b : Int) : (if a < b then b else a) = mx a b := rfl
theorem nmn (a b : Int) : (if b < a then b else a) = mn a b := rfl
theorem setD (l : List Int) (n i : Nat) (v : Int) (hn : n < l.length) : (bif decide (i = n) then v else l.getD i 0) = (l.set n v).getD i 0 := by
  simp only [List.getD_eq_getElem?_getD]
  by_cases h : i = n
  · subst h; simp [hn]
  · rw [List.getElem?_set_ne (by omega)]; simp [h]
theorem appD (l r : List Int) (i : Nat) : (bif decide (i < l.length) then l.getD i 0 else r.getD (i - l.length) 0) = (l ++ r).getD i 0 := by
  simp only [List.getD_eq_getElem?_getD]
  by_cases h : i < l.length
  · rw [List.getElem?_append_left h]; simp [h]
  · rw [List.getElem?_append_right (by omega)]; simp [h]
section
variable {σ : Ren} {ar : Ar}
theorem tle_int {k : IntKind} {a b : Int} (h : a = b) : TLe σ ar (.c (.d (.sc (.int k a)))) (.c (.d (.sc (.int k b)))) := by subst h; rfl
theorem tle_bool {a b : Bool} (h : a = b) : TLe σ ar (.c (.d (.sc (.bool a)))) (.c (.d (.sc (.bool b)))) := by subst h; rfl
theorem tle_str {a b : ByteArray} (h : a = b) : TLe σ ar (.c (.d (.sc (.string a)))) (.c (.d (.sc (.string b)))) := by subst h; rfl
theorem tle_own {b b' n n' : Nat} (h : nth σ b' = some (some b)) (hn : n = n') : TLe σ ar (.c (.own b n)) (.c (.own b' n')) := ⟨h, hn⟩
theorem tle_nilown {b' n : Nat} (h : nth σ b' = some none) (hn : n = 0) : TLe σ ar (.c (.d (.sc (.slice none 0 0)))) (.c (.own b' n)) := ⟨rfl, h, hn⟩
theorem tle_sl {l l' z : Nat} {f g : Nat → Nat → DV} (hl : l = l') (h : ∀ i, i < l → ∀ j, j < z → f i j = g i j) : TLe σ ar (.c (.d (.sl l z f))) (.c (.d (.sl l' z g))) := ⟨hl, rfl, fun i hi j hj => DLe.of (h i hi j hj)⟩
theorem tle_nil {l z : Nat} {g : Nat → Nat → DV} (hl : l = 0) : TLe σ ar (.c (.d (.sc (.slice none 0 0)))) (.c (.d (.sl l z g))) := ⟨rfl, hl⟩
theorem ble_vec {b : Nat} {L L' e z : Nat} {f g : Nat → Nat → DV} {wr st : Bool} (ha : ar b = .vec L e z f wr st) {wr' : Bool} (hw : wr' = true → wr = true) (hL : L = L') (h : ∀ i, i < L → ∀ j, j < z → f i j = g i j) : BLe σ ar (some b) (.vec L' e z g wr' st) := by
  show (match ar b with | .vec L e sz f wr st => _ | _ => False)
  rw [ha]; exact ⟨hL, rfl, rfl, rfl, hw, fun i hi j hj => DLe.of (h i hi j hj)⟩
theorem ble_none {L e z : Nat} {g : Nat → Nat → DV} {wr : Bool} (h : L = 0) : BLe σ ar none (.vec L e z g wr false) := ⟨h, rfl⟩
end
theorem sub_of1p {s : St} {L : List (Nat × TV)} {A : Blk} (he : EsLe [some 0] s L) (hs : BsLe [some 0] s.ar [some 0] [A]) (hb : renB [some 0] s.nb s.np = true) : Sub s ⟨envL L, arOf [A], 1, s.nt, s.np⟩ := sub_of [some 0] s L [A] hb hs he
theorem sub_of2p {s : St} {L : List (Nat × TV)} {A B : Blk} (p : Option Nat) (he : EsLe [some 0, p] s L) (hs : BsLe [some 0, p] s.ar [some 0, p] [A, B]) (hb : renB [some 0, p] s.nb s.np = true) : Sub s ⟨envL L, arOf [A, B], 2, s.nt, s.np⟩ := sub_of [some 0, p] s L [A, B] hb hs he
theorem exp_of1p {ar : Ar} {nb np : Nat} {x res : TV} {A : Blk} (hx : TLe [some 0] ar x res) (hs : BsLe [some 0] ar [some 0] [A]) (hb : renB [some 0] nb np = true) : Exp ar nb np x [A] res := exp_of [some 0] hb hs hx
theorem exp_of2p {ar : Ar} {nb np : Nat} {x res : TV} {A B : Blk} (p : Option Nat) (hx : TLe [some 0, p] ar x res) (hs : BsLe [some 0, p] ar [some 0, p] [A, B]) (hb : renB [some 0, p] nb np = true) : Exp ar nb np x [A, B] res := exp_of [some 0, p] hb hs hx
theorem esle_nil {σ : Ren} {s : St} : EsLe σ s [] := trivial
theorem esle_c {σ : Ren} {s : St} {t : Nat} {v : TV} {r : List (Nat × TV)} {x : CV} (e : s.env t = .c x) (h : TLe σ s.ar (.c x) v) (hr : EsLe σ s r) : EsLe σ s ((t, v) :: r) := ⟨by rw [e]; exact h, hr⟩
theorem esle_a {σ : Ren} {s : St} {t : Nat} {v : TV} {r : List (Nat × TV)} {x : List CV} (e : s.env t = .agg x) (h : TLe σ s.ar (.agg x) v) (hr : EsLe σ s r) : EsLe σ s ((t, v) :: r) := ⟨by rw [e]; exact h, hr⟩
theorem bsle_nil {σ : Ren} {ar : Ar} : BsLe σ ar [] [] := trivial
theorem bsle_cons {σ : Ren} {ar : Ar} {o : Option Nat} {B : Blk} {r : Ren} {R : List Blk} (h : BLe σ ar o B) (hr : BsLe σ ar r R) : BsLe σ ar (o :: r) (B :: R) := ⟨h, hr⟩
theorem dts_nil : DTs [] [] := trivial
theorem dts_cons {x y : TV} {r s : List TV} (h : DT x y) (hr : DTs r s) : DTs (x :: r) (y :: s) := ⟨h, hr⟩
theorem dt_int {k : IntKind} {a b : Int} (h : a = b) : DT (.c (.d (.sc (.int k a)))) (.c (.d (.sc (.int k b)))) := by subst h; rfl
theorem dt_bool {a b : Bool} (h : a = b) : DT (.c (.d (.sc (.bool a)))) (.c (.d (.sc (.bool b)))) := by subst h; rfl
theorem dt_str {a b : ByteArray} (h : a = b) : DT (.c (.d (.sc (.string a)))) (.c (.d (.sc (.string b)))) := by subst h; rfl
theorem dt_sl {l l' z : Nat} {f g : Nat → Nat → DV} (hl : l = l') (h : ∀ i, i < l → ∀ j, j < z → f i j = g i j) : DT (.c (.d (.sl l z f))) (.c (.d (.sl l' z g))) := ⟨hl, rfl, fun i hi j hj => DLe.of (h i hi j hj)⟩
theorem dt_nil {l z : Nat} {g : Nat → Nat → DV} (hl : l = 0) : DT (.c (.d (.sc (.slice none 0 0)))) (.c (.d (.sl l z g))) := ⟨rfl, hl⟩
theorem dt_agg {xs ys : List CV} (h : DCs xs ys) : DT (.agg xs) (.agg ys) := h
theorem dcs_nil : DCs [] [] := trivial
theorem dcs_cons {x y : DV} {r s : List CV} (h : DLe x y) (hr : DCs r s) : DCs (.d x :: r) (.d y :: s) := ⟨h, hr⟩
theorem dl_int {k : IntKind} {a b : Int} (h : a = b) : DLe (.sc (.int k a)) (.sc (.int k b)) := by subst h; rfl
theorem dl_bool {a b : Bool} (h : a = b) : DLe (.sc (.bool a)) (.sc (.bool b)) := by subst h; rfl
theorem dl_str {a b : ByteArray} (h : a = b) : DLe (.sc (.string a)) (.sc (.string b)) := by subst h; rfl
theorem dl_sl {l l' z : Nat} {f g : Nat → Nat → DV} (hl : l = l') (h : ∀ i, i < l → ∀ j, j < z → f i j = g i j) : DLe (.sl l z f) (.sl l' z g) := ⟨hl, rfl, fun i hi j hj => DLe.of (h i hi j hj)⟩
theorem dl_nil {l z : Nat} {g : Nat → Nat → DV} (hl : l = 0) : DLe (.sc (.slice none 0 0)) (.sl l z g) := ⟨rfl, hl⟩
section
variable {σ : Ren} {ar : Ar}
theorem tle_ownd {b len l sz : Nat} {g : Nat → Nat → DV} (hσ : ∀ i, nth σ i ≠ some (some b)) {L e sz' : Nat} {f : Nat → Nat → DV} {wr st : Bool} (ha : ar b = .vec L e sz' f wr st) (hl : len = l) (h : ∀ i, i < len → ∀ j, j < sz → f i j = g i j) (hz : sz' = sz := by rfl) : TLe σ ar (.c (.own b len)) (.c (.d (.sl l sz g))) := by
  subst hz
  refine ⟨hσ, ?_⟩
  rw [ha]; exact ⟨hl, rfl, fun i hi j hj => DLe.of (h i hi j hj)⟩
theorem tle_agg {xs ys : List CV} (h : CsLe σ ar xs ys) : TLe σ ar (.agg xs) (.agg ys) := h
theorem tle_tup {xs ys : List TV} (h : TsLe σ ar xs ys) : TLe σ ar (.tup xs) (.tup ys) := h
theorem csle_nil : CsLe σ ar [] [] := trivial
theorem csle_cons {x y : CV} {r s : List CV} (h : CLe σ ar x y) (hr : CsLe σ ar r s) : CsLe σ ar (x :: r) (y :: s) := ⟨h, hr⟩
theorem tsle_nil : TsLe σ ar [] [] := trivial
theorem tsle_cons {x y : TV} {r s : List TV} (h : TLe σ ar x y) (hr : TsLe σ ar r s) : TsLe σ ar (x :: r) (y :: s) := ⟨h, hr⟩
theorem cle_int {k : IntKind} {a b : Int} (h : a = b) : CLe σ ar (.d (.sc (.int k a))) (.d (.sc (.int k b))) := by subst h; rfl
theorem cle_bool {a b : Bool} (h : a = b) : CLe σ ar (.d (.sc (.bool a))) (.d (.sc (.bool b))) := by subst h; rfl
theorem cle_str {a b : ByteArray} (h : a = b) : CLe σ ar (.d (.sc (.string a))) (.d (.sc (.string b))) := by subst h; rfl
theorem cle_own {b b' n n' : Nat} (h : nth σ b' = some (some b)) (hn : n = n') : CLe σ ar (.own b n) (.own b' n') := ⟨h, hn⟩
theorem cle_nilown {b' n : Nat} (h : nth σ b' = some none) (hn : n = 0) : CLe σ ar (.d (.sc (.slice none 0 0))) (.own b' n) := ⟨rfl, h, hn⟩
theorem cle_sl {l l' z : Nat} {f g : Nat → Nat → DV} (hl : l = l') (h : ∀ i, i < l → ∀ j, j < z → f i j = g i j) : CLe σ ar (.d (.sl l z f)) (.d (.sl l' z g)) := ⟨hl, rfl, fun i hi j hj => DLe.of (h i hi j hj)⟩
theorem cle_nil {l z : Nat} {g : Nat → Nat → DV} (hl : l = 0) : CLe σ ar (.d (.sc (.slice none 0 0))) (.d (.sl l z g)) := ⟨rfl, hl⟩
theorem cle_ownd {b len l sz : Nat} {g : Nat → Nat → DV} (hσ : ∀ i, nth σ i ≠ some (some b)) {L e sz' : Nat} {f : Nat → Nat → DV} {wr st : Bool} (ha : ar b = .vec L e sz' f wr st) (hl : len = l) (h : ∀ i, i < len → ∀ j, j < sz → f i j = g i j) (hz : sz' = sz := by rfl) : CLe σ ar (.own b len) (.d (.sl l sz g)) := tle_ownd hσ ha hl h hz
end
theorem pre_and {p q : Prop} (hp : p) (hq : q) : p ∧ q := ⟨hp, hq⟩
theorem loopI {θ : Pr} (hθ : Θ = θ) (I : Nat → St → Prop) {m0 : Nat} {s0 : St} {body : St → (Ex → St → Prop) → Prop} {st : St} {K : Ex → St → Prop} (hi : I m0 s0) (h0 : Sub st s0)
    (h : ∀ (m : Nat) (s : St) (Q : St → Prop), m ≤ m0 → I m s → (∀ (m' : Nat) (s' s'' : St), m' < m → I m' s'' → Sub s' s'' → Q s') → body s (fun e s' => match e with
      | .normal => Q s'
      | .exit id => K (.exit id) s'
      | .ret => K .ret s')) : θ.loop body st K :=
  loop_rule (hΘ hθ) (ι := {p : Nat × St // p.1 ≤ m0 ∧ I p.1 p.2}) (fun i => i.1.1) (fun i => i.1.2) ⟨(m0, s0), Nat.le_refl _, hi⟩ h0 fun i Q hQ => h i.1.1 i.1.2 Q i.2.1 i.2.2 fun m' s' s'' hm hI hS => hQ ⟨(m', s''), Nat.le_trans (Nat.le_of_lt hm) i.2.1, hI⟩ s' hm hS
theorem ncast (n : Nat) : @NatCast.natCast Int instNatCastInt n = (n : Int) := rfl
theorem noneO {β : Type} {r : β} {p : Prop} (h : (none : Option β) = some r) : p := by cases h
theorem iteO {β : Type} {c : Prop} [Decidable c] {x y : Option β} {r : β} (h : (if c then x else y) = some r) : (c ∧ x = some r) ∨ (¬ c ∧ y = some r) := by
  by_cases hc : c
  · rw [if_pos hc] at h; exact .inl ⟨hc, h⟩
  · rw [if_neg hc] at h; exact .inr ⟨hc, h⟩
theorem someB {α β : Type} {x : α} {f : α → Option β} {r : β} (h : ((some x).bind f) = some r) : f x = some r := h
theorem bindO {α β : Type} {x : Option α} {f : α → Option β} {r : β} (h : (x.bind f) = some r) : ∃ t, x = some t ∧ f t = some r := Option.bind_eq_some_iff.1 h
theorem call_rule' {θ : Pr} (hθ : Θ = θ) {f : FuncId} {args args' ds : List TV} {st : St} {K : TV → St → Prop} {ar' : Ar} {R : List Blk} {res : TV} (hac : AC Tryd.prog N0 G0 f [] args' R res) (hf : memB MV f = false) (hd : dvTs st.ar args = some (ds, ar')) (ht : DTs ds args') (hR : Nat.ble R.length 8 = true)
    (hk : K (shT st.nb res) { st with ar := placeL ar' st.nb 0 R }) : θ.call f args st K := call_rule (hΘ hθ) hf hac hd ht hR hk
theorem sub_of0 {s : St} {L : List (Nat × TV)} (he : EsLe [] s L) (hb : renB [] s.nb s.np = true) : Sub s ⟨envL L, arOf [], 0, s.nt, s.np⟩ := sub_of [] s L [] hb trivial he
theorem sub_of1 {s : St} {L : List (Nat × TV)} {A : Blk} (o : Option Nat) (he : EsLe [o] s L) (hs : BsLe [o] s.ar [o] [A]) (hb : renB [o] s.nb s.np = true) : Sub s ⟨envL L, arOf [A], 1, s.nt, s.np⟩ := sub_of [o] s L [A] hb hs he
theorem sub_of2 {s : St} {L : List (Nat × TV)} {A B : Blk} (o p : Option Nat) (he : EsLe [o, p] s L) (hs : BsLe [o, p] s.ar [o, p] [A, B]) (hb : renB [o, p] s.nb s.np = true) : Sub s ⟨envL L, arOf [A, B], 2, s.nt, s.np⟩ := sub_of [o, p] s L [A, B] hb hs he
theorem sub_of3 {s : St} {L : List (Nat × TV)} {A B C : Blk} (o p q : Option Nat) (he : EsLe [o, p, q] s L) (hs : BsLe [o, p, q] s.ar [o, p, q] [A, B, C]) (hb : renB [o, p, q] s.nb s.np = true) : Sub s ⟨envL L, arOf [A, B, C], 3, s.nt, s.np⟩ := sub_of [o, p, q] s L [A, B, C] hb hs he
theorem exp_of0 {ar : Ar} {nb : Nat} {x res : TV} (hx : TLe [] ar x res) : Exp ar nb 0 x [] res := exp_of [] rfl trivial hx
theorem exp_of1 {ar : Ar} {nb np : Nat} {x res : TV} {A : Blk} (o : Option Nat) (hx : TLe [o] ar x res) (hs : BsLe [o] ar [o] [A]) (hb : renB [o] nb np = true) : Exp ar nb np x [A] res := exp_of [o] hb hs hx
theorem pset {θ : Pr} (hθ : Θ = θ) (k : IntKind) (f : Nat → Int) (n i : Nat) (v : Int) : setF θ (fun i _ => DV.sc (.int k (f i))) n 0 (.sc (.int k v)) i 0 = .sc (.int k (bif decide (i = n) then v else f i)) := by subst hθ; cases k <;> rfl
theorem psetb {θ : Pr} (hθ : Θ = θ) (f : Nat → Bool) (n i : Nat) (v : Bool) : setF θ (fun i _ => DV.sc (.bool (f i))) n 0 (.sc (.bool v)) i 0 = .sc (.bool (bif decide (i = n) then v else f i)) := by subst hθ; rfl
theorem papp {θ : Pr} (hθ : Θ = θ) (k : IntKind) (f g : Nat → Int) (L i : Nat) : appF θ L (fun i _ => DV.sc (.int k (f i))) (fun i _ => DV.sc (.int k (g i))) i 0 = .sc (.int k (bif decide (i < L) then f i else g (i - L))) := by subst hθ; cases k <;> rfl
theorem pover {θ : Pr} (hθ : Θ = θ) (k : IntKind) (f g : Nat → Int) (n i : Nat) : overF θ n (fun i _ => DV.sc (.int k (g i))) (fun i _ => DV.sc (.int k (f i))) i 0 = .sc (.int k (bif decide (i < n) then g i else f i)) := by subst hθ; cases k <;> rfl
theorem poverz {θ : Pr} (hθ : Θ = θ) (k : IntKind) (f : Nat → Nat → DV) (z : Int) (n i : Nat) (h : f i 0 = .sc (.int k z)) : overF θ n (zeroF [.int k z]) f i 0 = .sc (.int k z) := by
  subst hθ
  show merge Θ (decide (i < n)) (.sc (.int k z)) (f i 0) = _
  rw [h]
  have hk : ∀ b : Bool, Θ.iteI b z z = z := fun b => by cases b <;> rfl
  unfold merge
  cases k <;> simp [kindEq, hk]
theorem papp1 {θ : Pr} (hθ : Θ = θ) (k : IntKind) (l : List Int) (v : Int) (i : Nat) (h : i < l.length + 1) : appF θ (θ.len l) (fun i _ => DV.sc (.int k (θ.get l i 0))) (litF nilDV [[.sc (.int k v)]]) i 0 = .sc (.int k (θ.get (l ++ [v]) i 0)) := by
  subst hθ
  show _ = DV.sc (.int k ((l ++ [v]).getD i 0))
  rw [← appD]
  show merge Θ (decide (i < l.length)) (.sc (.int k (l.getD i 0))) (litF nilDV [[.sc (.int k v)]] (i - l.length) 0) = _
  by_cases h1 : i < l.length
  · rw [decide_eq_true h1]
    generalize i - l.length = q
    rcases q with _ | _ | q <;> cases k <;> rfl
  · obtain rfl : i = l.length := by omega
    rw [decide_eq_false h1, Nat.sub_self]
    cases k <;> rfl
theorem repD (n i : Nat) (z : Int) : (List.replicate n z).getD i z = z := by
  rw [List.getD_eq_getElem?_getD, List.getElem?_replicate]; split <;> rfl
theorem condSelf {α : Type} (b : Bool) (x : α) : (bif b then x else x) = x := by cases b <;> rfl
theorem condEq {α : Type} (a : Nat) (x y : α) : (bif decide (a = a) then x else y) = x := by simp
theorem decTrue {α : Type} (x y : α) : (bif decide True then x else y) = x := rfl
theorem plit1 {θ : Pr} (hθ : Θ = θ) (k : IntKind) (v : Int) (i : Nat) (h : i < 1) : litF (.sc (.slice none 0 0)) [[.sc (.int k v)]] i 0 = .sc (.int k (θ.get [v] i 0)) := by
  subst hθ
  obtain rfl : i = 0 := by omega
  rfl
theorem scC {k : IntKind} {a b : Int} (h : a = b) : DV.sc (.int k a) = DV.sc (.int k b) := by rw [h]
theorem callG_rule' {θ : Pr} (hθ : Θ = θ) {f : FuncId} {args args' : List TV} {st : St} {K : TV → St → Prop} (σ D : List Nat) {A R : List Blk} {res : TV} (hac : AC Tryd.prog N0 G0 f A args' R res) (hf : memB MV f = true) (h1 : renB (σ.map some) st.nb 0 = true)
    (h4 : Nat.ble R.length (σ.length + 8) = true) (h2 : BsLe (σ.map some) (kl σ D st.ar) (σ.map some) A) (h3 : TsLe (σ.map some) (kl σ D st.ar) args args') (h5 : okKs A R) (hk : K (mvT (tau σ st.nb) res) { st with ar := back σ st.nb R (frzD st.ar D) }) : θ.call f args st K :=
  callG_rule (hΘ hθ) σ D hf hac h1 h2 h3 h4 h5 hk
theorem callG_one {θ : Pr} (hθ : Θ = θ) {f : FuncId} {args args' : List TV} {st : St} {K : TV → St → Prop} (b : Nat) {A : Blk} {R : List Blk} {res : TV} (hac : AC Tryd.prog N0 G0 f [A] args' R res) (hf : memB MV f = true) (h1 : renB [some b] st.nb 0 = true)
    (h4 : Nat.ble R.length 9 = true) (h2 : BLe [some b] (kl [b] [] st.ar) (some b) A) (h3 : TsLe [some b] (kl [b] [] st.ar) args args') (h5 : okKs [A] R) (hk : K (mvT (tau [b] st.nb) res) { st with ar := back [b] st.nb R (frzD st.ar []) }) : θ.call f args st K :=
  callG_rule' hθ [b] [] hac hf h1 h4 ⟨h2, trivial⟩ h3 h5 hk
def noB (σ : Ren) (b : Nat) : Bool := σ.all fun o => match o with
  | some x => !(Nat.beq x b)
  | none => true
theorem nth_ne {σ : Ren} {b : Nat} (h : noB σ b = true) : ∀ i, nth σ i ≠ some (some b) := by
  intro i hi
  rw [nth_eq] at hi
  have := List.all_eq_true.1 h _ (List.mem_of_getElem? hi)
  simp at this
theorem mergeΘ (t : Bool) (x y : DV) : merge Θ t x y = bif t then x else y := by
  unfold merge
  split
  · rename_i k a k' b
    cases hk : kindEq k k' with
    | false => rfl
    | true =>
      obtain rfl := kindEq_eq hk
      cases t <;> rfl
  · cases t <;> rfl
  · cases t <;> rfl
  · rfl
/-- One element more behind a slice of elements of any kind. -/
theorem pappS {θ : Pr} (hθ : Θ = θ) {α : Type} (c : α → Nat → DV) (z : α) (l : List α) (x : α) (row : List DV) (i j : Nat) (h : i < l.length + 1) (hr : litF nilDV [row] 0 j = c x j) : appF θ (θ.len l) (fun i j => c (θ.get l i z) j) (litF nilDV [row]) i j = c (θ.get (l ++ [x]) i z) j := by
  subst hθ
  show merge Θ (decide (i < l.length)) (c (l.getD i z) j) (litF nilDV [row] (i - l.length) j) = c ((l ++ [x]).getD i z) j
  rw [mergeΘ]
  simp only [List.getD_eq_getElem?_getD]
  by_cases h1 : i < l.length
  · rw [List.getElem?_append_left h1]; simp [h1]
  · obtain rfl : i = l.length := by omega
    rw [List.getElem?_append_right (Nat.le_refl _)]
    simp [hr]
theorem lt_two {j : Nat} (h : j < 2) : j = 0 ∨ j = 1 := by omega
theorem lt_seven {j : Nat} (h : j < 7) : j = 0 ∨ j = 1 ∨ j = 2 ∨ j = 3 ∨ j = 4 ∨ j = 5 ∨ j = 6 := by omega
theorem nstr2 (k : IntKind) (l : List Int) : strOf l.length (fun i => iv (DV.sc (.int k (l.getD i 0)))) = strOfNums l := nstr l
theorem nbo (s : ByteArray) (i : Nat) : byteAt s (i : Int) = (bytesOf s).getD i 0 := by
  unfold byteAt bytesOf
  rw [Int.toNat_natCast, List.getD_eq_getElem?_getD, List.getElem?_map, Array.getElem?_toList]
  by_cases h : i < s.size
  · rw [dif_pos h, Array.getElem?_eq_getElem (show i < s.data.size from h)]; rfl
  · rw [dif_neg h, Array.getElem?_eq_none (by have : s.data.size = s.size := rfl; omega)]; rfl
theorem nbl (s : ByteArray) : (bytesOf s).length = s.size := by
  unfold bytesOf
  rw [List.length_map, Array.length_toList]; rfl
theorem setDB (l : List Bool) (n i : Nat) (v : Bool) (hn : n < l.length) : (bif decide (i = n) then v else l.getD i false) = (l.set n v).getD i false := by
  simp only [List.getD_eq_getElem?_getD]
  by_cases h : i = n
  · subst h; simp [hn]
  · rw [List.getElem?_set_ne (by omega)]; simp [h]
theorem scB {a b : Bool} (h : a = b) : DV.sc (.bool a) = DV.sc (.bool b) := by rw [h]
theorem poverzb {θ : Pr} (hθ : Θ = θ) (f : Nat → Nat → DV) (z : Bool) (n i : Nat) (h : f i 0 = .sc (.bool z)) : overF θ n (zeroF [.bool z]) f i 0 = .sc (.bool z) := by
  subst hθ
  show merge Θ _ _ (f i 0) = _
  rw [mergeΘ, h]
  cases Θ.ltN i n <;> rfl
theorem psetbz {θ : Pr} (hθ : Θ = θ) (n i : Nat) (v z : Bool) : setF θ (zeroF [.bool z]) n 0 (.sc (.bool v)) i 0 = .sc (.bool (bif decide (i = n) then v else z)) := by
  subst hθ
  show merge Θ (decide (i = n)) (.sc (.bool v)) (.sc (.bool z)) = _
  rw [mergeΘ]; cases decide (i = n) <;> rfl
theorem psetz {θ : Pr} (hθ : Θ = θ) (k : IntKind) (n i : Nat) (v z : Int) : setF θ (zeroF [.int k z]) n 0 (.sc (.int k v)) i 0 = .sc (.int k (bif decide (i = n) then v else z)) := by
  subst hθ
  show merge Θ (decide (i = n)) (.sc (.int k v)) (.sc (.int k z)) = _
  rw [mergeΘ]; cases decide (i = n) <;> rfl
theorem setDBz (m n i : Nat) (v : Bool) (hn : n < m) : (bif decide (i = n) then v else false) = ((List.replicate m false).set n v).getD i false := by
  rw [← setDB _ _ _ _ (by simpa using hn)]
  congr 1
  rw [List.getD_eq_getElem?_getD, List.getElem?_replicate]; split <;> rfl
theorem setDz (m n i : Nat) (v : Int) (hn : n < m) : (bif decide (i = n) then v else 0) = ((List.replicate m 0).set n v).getD i 0 := by
  rw [← setD _ _ _ _ (by simpa using hn)]
  congr 1
  rw [List.getD_eq_getElem?_getD, List.getElem?_replicate]; split <;> rfl
theorem pover1 {θ : Pr} (hθ : Θ = θ) (k : IntKind) (f : Nat → Int) (z : Int) (n i : Nat) : overF θ n (fun i _ => .sc (.int k (f i))) (zeroF [.int k z]) i 0 = .sc (.int k (bif decide (i < n) then f i else z)) := by
  subst hθ
  show merge Θ (decide (i < n)) (.sc (.int k (f i))) (.sc (.int k z)) = _
  rw [mergeΘ]; cases decide (i < n) <;> rfl
theorem padD (l : List Int) (m i : Nat) : (bif decide (i < l.length) then l.getD i 0 else 0) = (l ++ List.replicate m 0).getD i 0 := by
  rw [← appD]
  by_cases h : i < l.length
  · simp [h]
  · rw [decide_eq_false h]
    show (0 : Int) = (List.replicate m 0).getD (i - l.length) 0
    rw [List.getD_eq_getElem?_getD, List.getElem?_replicate]; split <;> rfl
theorem repDB (n i : Nat) : (List.replicate n false).getD i false = false := by
  rw [List.getD_eq_getElem?_getD, List.getElem?_replicate]; split <;> rfl
section
variable {σ : Ren} {ar : Ar}
theorem dcs_mapn : DCs (List.map CV.d []) [] := trivial
theorem dcs_mapc {x y : DV} {r : List DV} {s : List CV} (h : DLe x y) (hr : DCs (r.map CV.d) s) : DCs (List.map CV.d (x :: r)) (.d y :: s) := ⟨h, hr⟩
theorem dl_rfl {x : DV} : DLe x x := DLe.refl x
theorem dt_slD {l l' z : Nat} {f g : Nat → Nat → DV} (hl : l = l') (h : ∀ i, i < l → ∀ j, j < z → DLe (f i j) (g i j)) : DT (.c (.d (.sl l z f))) (.c (.d (.sl l' z g))) := ⟨hl, rfl, h⟩
theorem oks_nil {s : List Blk} : okKs [] s := by unfold okKs; trivial
theorem oks_vec {L L' e sz : Nat} {f g : Nat → Nat → DV} {wr wr' st : Bool} {r s : List Blk} (h : L = L') (hr : okKs r s) : okKs (.vec L e sz f wr st :: r) (.vec L' e sz g wr' st :: s) := ⟨⟨h, rfl, rfl, rfl⟩, hr⟩
theorem oks_dead {L e sz : Nat} {f : Nat → Nat → DV} {wr st : Bool} {r s : List Blk} (hr : okKs r s) : okKs (.vec L e sz f wr st :: r) (.dead :: s) := ⟨trivial, hr⟩
theorem tle_ptr {b b' j : Nat} (h : nth σ b' = some (some b)) : TLe σ ar (.c (.ptr b j)) (.c (.ptr b' j)) := ⟨h, rfl⟩
theorem cle_ptr {b b' j : Nat} (h : nth σ b' = some (some b)) : CLe σ ar (.ptr b j) (.ptr b' j) := ⟨h, rfl⟩
theorem tle_vptr {b b' i j : Nat} (h : nth σ b' = some (some b)) : TLe σ ar (.c (.vptr b i j)) (.c (.vptr b' i j)) := ⟨h, rfl, rfl⟩
theorem cle_rfl {x : DV} : CLe σ ar (.d x) (.d x) := DLe.refl x
theorem cle_junk {x : CV} : CLe σ ar x .junk := by unfold CLe; trivial
theorem ble_box {b : Nat} {cs ds : List CV} (ha : ar b = .box cs) (h : CsLe σ ar cs ds) : BLe σ ar (some b) (.box ds) := by
  show (match ar b with | .box cs => _ | _ => False)
  rw [ha]; exact h
theorem ble_dead {o : Option Nat} : BLe σ ar o .dead := by unfold BLe; trivial
end
end Go.Proofs.YtlpcphndgjibpaaDoor.Rx
