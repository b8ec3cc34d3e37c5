/- Fields, indexes, cuts, lengths, conversions of numbers, calls' arguments. No program's text. No condition. -/
import Derived.Test.YtlpcphndgjibpaaDoorZGRxA
namespace Go.Proofs.YtlpcphndgjibpaaDoor.Rx
open Go
section
variable {P : Program} {tt : TT} {Γ : Ctx} {w : World} {S : Stab} {ρ : Rho} {ar : Ar} {nid : Nat} {call : CallT} {loop : LoopT}
theorem un_ok (h : Ok Γ w S ρ ar) (op : UnOp) (t : Nat) (xo : Operand) (o : Oper) (a : Act) (ho : o.op = .unOp op t xo) {x : TV} (hx : RelT w S ρ ar x (a.eval xo)) :
    OutOk P Γ w S ρ ar nid ((execOp a.eval o).run P w) (doUn (std call loop) ar op x) := by
  have base : ∀ {u : Value}, (Op.unary op (a.eval xo)).run P w = .ok u w → (execOp a.eval o).run P w = .ok (.value u) w := by
    intro u h1
    simp [execOp, ho, h1]
  unfold doUn
  split
  · intro _
    refine Good.same h nid (base ?_) (relT_val rfl)
    rw [relT_sc hx]; simp [Op.unary, Op.intArith, std, una]
  · intro _
    refine Good.same h nid (base ?_) (relT_val rfl)
    rw [relT_sc hx]; simp [Op.unary, Op.intBits, std, una, Go.bits]
  · intro _
    refine Good.same h nid (base ?_) (relT_val rfl)
    rw [relT_sc hx]; simp [Op.unary, std]
  · trivial
theorem fields_at {t : Nat} {sz by_ : Nat} {z : List Value} {q : Bool} {fs : List (Nat × Nat)} (hi : TIok P t ⟨.stc fs, sz, by_, z, q⟩) {f off ty : Nat} (hf : nth fs f = some (off, ty)) :
    ∃ fields : Array Field, P.underlying t = some (.struct fields) ∧ ∃ g : Field, fields[f]? = some g ∧ g.offset = off ∧ g.type = ty := by
  obtain ⟨D, hD, fields, rfl, hfs⟩ := hi.desc
  refine ⟨fields, hD, ?_⟩
  rw [nth_eq, hfs, List.getElem?_map] at hf
  cases hg : fields.toList[f]? with
  | none => rw [hg] at hf; cases hf
  | some g =>
    rw [hg] at hf
    simp only [Option.map_some, Option.some.injEq, Prod.mk.injEq] at hf
    exact ⟨g, by rw [← Array.getElem?_toList]; exact hg, hf.1, hf.2⟩
theorem field_ok (h : Ok Γ w S ρ ar) (hT : TTok P tt) (t f : Nat) (xo : Operand) (o : Oper) (a : Act) (ho : o.op = .field t xo f) {x : TV} (hx : RelT w S ρ ar x (a.eval xo)) :
    OutOk P Γ w S ρ ar nid ((execOp a.eval o).run P w) (doField tt ar t x f) := by
  unfold doField
  split
  · rename_i fs sz by_ z q cs hti
    cases hf : nth fs f with
    | none => trivial
    | some p =>
      obtain ⟨off, ty⟩ := p
      dsimp only
      cases ht2 : tt ty with
      | none => trivial
      | some ti =>
        dsimp only
        cases htk : takeN ti.size (dropN off cs) with
        | none => trivial
        | some l =>
          intro _
          obtain ⟨fields, hD, g, hg, hgo, hgt⟩ := fields_at (hT _ _ hti) hf
          obtain ⟨us, hu, hr⟩ := relT_agg hx
          obtain ⟨e1, e2⟩ := takeN_some htk
          rw [dropN_eq] at e1 e2
          have hi := hT _ _ ht2
          have hc := relCs_cut hr off ti.size
          rw [← e1] at hc
          have hl : ((us.drop off).take ti.size).length = ti.size := by
            have := relCs_len hr
            rw [List.length_take, List.length_drop, this]
            rw [List.length_drop] at e2
            omega
          have hp : ∃ u, (part ty us.toArray off).run P w = .ok u w ∧ RelT w S ρ ar (asm ti.kind.agg l) u := by
            cases ha : ti.kind.agg with
            | true =>
              refine ⟨.agg (us.toArray.extract off (off + ti.size)), by simp [part, isAgg_run hi, ha, sizeOf_run hi], relT_asm hc (fun _ => ?_) (fun h => by cases h)⟩
              congr 1
              apply Array.ext'
              rw [Array.toList_extract]
              simp [List.extract_eq_take_drop]
            | false =>
              have h1 : ti.size = 1 := hi.one ha
              have hlt : off < us.length := by
                rw [h1, List.length_take, List.length_drop] at hl; omega
              refine ⟨us[off], by simp [part, isAgg_run hi, ha, hlt], relT_asm hc (fun h => by cases h) (fun _ v hv => ?_)⟩
              have h0 : ((us.drop off).take ti.size)[0]? = some v := by rw [hv]; rfl
              rw [List.getElem?_take, if_pos (by omega), List.getElem?_drop, Nat.add_zero, List.getElem?_eq_getElem hlt] at h0
              exact Option.some.inj h0
          obtain ⟨u, hrun, hrel⟩ := hp
          subst hgo hgt
          refine Good.same h nid ?_ hrel
          simp [execOp, ho, Instr.field, run_underlying hD, hg, hu, asAgg, hrun]
  · trivial
theorem fieldAddr_ok (h : Ok Γ w S ρ ar) (hT : TTok P tt) (t f : Nat) (xo : Operand) (o : Oper) (a : Act) (ho : o.op = .fieldAddr t xo f) {x : TV} (hx : RelT w S ρ ar x (a.eval xo)) :
    OutOk P Γ w S ρ ar nid ((execOp a.eval o).run P w) (doFieldAddr tt ar t x f) := by
  unfold doFieldAddr
  split
  · rename_i fs sz by_ z q hti
    cases hf : nth fs f with
    | none => trivial
    | some p =>
      obtain ⟨off, ty⟩ := p
      dsimp only
      cases ht2 : tt ty with
      | none => trivial
      | some ti =>
        dsimp only
        cases hz : Nat.beq ti.size 0 with
        | true => trivial
        | false =>
          have hz' : ti.size ≠ 0 := fun e => by rw [e] at hz; simp at hz
          have hi := hT _ _ ht2
          obtain ⟨fields, hD, g, hg, hgo, hgt⟩ := fields_at (hT _ _ hti) hf
          have base : ∀ {k j : Nat}, a.eval xo = .pointer (some ⟨k, j, none⟩) → (execOp a.eval o).run P w = .ok (.value (.pointer (some ⟨k, j + off, none⟩))) w := by
            intro k j h1
            have hadd : (⟨k, j, none⟩ : Addr).add off = ⟨k, j + off, none⟩ := by unfold Addr.add; split <;> simp_all
            subst hgo hgt
            simp [execOp, ho, Instr.fieldAt, run_underlying hD, hg, h1, Instr.sureAddr, fieldPlace, sizeOf_run hi, hz', hadd]
          dsimp only [cond_false]
          split
          · rename_i b j
            simp only [RelT, RelC] at hx
            split
            · rename_i cs hb
              intro _
              rw [hb] at hx
              obtain ⟨_, h1, k, hk, hu⟩ := hx
              refine Good.same h nid (base hu) ?_
              simp only [RelT, RelC, hb]
              exact ⟨rfl, h1, k, hk, rfl⟩
            · trivial
          · rename_i b i j
            simp only [RelT, RelC] at hx
            split
            · rename_i L e sz' f' wr st hb
              intro _
              rw [hb] at hx
              obtain ⟨_, h1, k, hk, hu, hL⟩ := hx
              refine Good.same h nid (base hu) ?_
              simp only [RelT, RelC, hb]
              exact ⟨rfl, h1, k, hk, by rw [Nat.add_assoc], hL⟩
            · trivial
          · rename_i n g'
            simp only [RelT, RelC] at hx
            obtain ⟨k, j, hu, hx⟩ := hx
            cases hle : Nat.ble off n with
            | false => trivial
            | true =>
              have hle' := Nat.le_of_ble_eq_true hle
              intro _
              refine Good.same h nid (base hu) ?_
              simp only [RelT, RelC]
              refine ⟨k, j + off, rfl, fun q hq => ?_⟩
              rw [Nat.add_assoc]
              exact hx (off + q) (by omega)
          · trivial
  · trivial
theorem idx_run (hT : TTok P tt) {t e : Nat} {ti : TI} {n : Int} {k : IntKind} {len cap : Nat} (hu : P.underlying t = some (.slice e)) (hti : tt e = some ti) (hb : 0 ≤ n ∧ n < (len : Int)) (b off : Nat) :
    (Instr.indexAt t (.slice (some ⟨b, off, none⟩) len cap) (.int k n)).run P w = .ok (.pointer (some ⟨b, off + n.toNat * ti.size, none⟩)) w := by
  have hadd : (⟨b, off, none⟩ : Addr).add (n.toNat * ti.size) = ⟨b, off + n.toNat * ti.size, none⟩ := by unfold Addr.add; split <;> simp_all
  simp [Instr.indexAt, asIntOf, run_underlying hu, hb, sizeOf_run (hT _ _ hti), hadd]
theorem indexAddr_ok (h : Ok Γ w S ρ ar) (hT : TTok P tt) (t : Nat) (xo io : Operand) (o : Oper) (a : Act) (ho : o.op = .indexAddr t xo io) {x i : TV} (hx : RelT w S ρ ar x (a.eval xo)) (hi : RelT w S ρ ar i (a.eval io)) :
    OutOk P Γ w S ρ ar nid ((execOp a.eval o).run P w) (doIndexAddr (std call loop) tt ar t x i) := by
  have base : ∀ {u : Value}, (Instr.indexAt t (a.eval xo) (a.eval io)).run P w = .ok u w → (execOp a.eval o).run P w = .ok (.value u) w := by
    intro u h1
    simp [execOp, ho, h1]
  unfold doIndexAddr
  cases hin : intOf i with
  | none => trivial
  | some p =>
    obtain ⟨k, n⟩ := p
    have hi' : a.eval io = .int k n := by
      unfold intOf at hin
      split at hin
      · simp only [Option.some.injEq, Prod.mk.injEq] at hin
        obtain ⟨rfl, rfl⟩ := hin
        exact relT_sc hi
      · cases hin
    dsimp only
    split
    · rename_i e sz by_ z q b len hti
      split
      · rename_i ti L e' sz' f wr st hte hb
        cases hsz : Nat.beq ti.size sz' with
        | false => trivial
        | true =>
          have hsz' := Nat.eq_of_beq_eq_true hsz
          intro hp
          have hp' : 0 ≤ n ∧ n < (len : Int) := hp
          obtain ⟨D, hD, hk⟩ := (hT _ _ hti).desc
          simp only [kindD] at hk; subst hk
          simp only [RelT, RelC, hb] at hx
          obtain ⟨_, hnf, hlL, hx⟩ := hx
          cases hs : ρ b with
          | free => exact absurd hs hnf
          | virt =>
            rw [hs] at hx
            dsimp only at hx
            exfalso; omega
          | «at» kk =>
            rw [hs] at hx
            obtain ⟨cap, cur, fr, hu, _⟩ := hx
            have hrun := idx_run (P := P) (w := w) hT (k := k) (cap := cap) hD hte hp' kk 0
            refine Good.same h nid (base (by rw [hu, hi']; exact hrun)) ?_
            simp only [RelT, RelC, hb, hs]
            refine ⟨rfl, by simp, kk, rfl, ?_, ?_⟩
            · simp [std, hsz']
            · simp only [std]; omega
      · trivial
    · rename_i e sz by_ z q len sz' f hti
      cases hte : tt e with
      | none => trivial
      | some ti =>
        dsimp only
        cases hsz : Nat.beq ti.size sz' with
        | false => trivial
        | true =>
          have hsz' := Nat.eq_of_beq_eq_true hsz
          intro hp
          have hp' : 0 ≤ n ∧ n < (len : Int) := hp
          obtain ⟨D, hD, hk⟩ := (hT _ _ hti).desc
          simp only [kindD] at hk; subst hk
          simp only [RelT, RelC, RelD] at hx
          obtain ⟨A, cap, hu, h1, h2, h3⟩ := hx
          obtain ⟨kk, off, rfl, h4⟩ := h3 (by omega)
          have hrun := idx_run (P := P) (w := w) hT (k := k) (cap := cap) hD hte hp' kk off
          refine Good.same h nid (base (by rw [hu, hi']; exact hrun)) ?_
          simp only [RelT, RelC]
          refine ⟨kk, off + n.toNat * ti.size, rfl, fun j hj => ?_⟩
          have := h4 n.toNat (by omega) j hj
          rw [hsz']
          simpa [std] using this
    · exact fun hf => hf.elim
    · rename_i len e sz by_ z q b hti
      split
      · rename_i ti L e' sz' f wr st hte hb
        cases hsz : (Nat.beq ti.size sz' && Nat.beq L len) with
        | false => trivial
        | true =>
          simp only [Bool.and_eq_true] at hsz
          have hsz' := Nat.eq_of_beq_eq_true hsz.1
          have hLl := Nat.eq_of_beq_eq_true hsz.2
          intro hp
          have hp' : 0 ≤ n ∧ n < (len : Int) := hp
          obtain ⟨D, hD, hk⟩ := (hT _ _ hti).desc
          simp only [kindD] at hk; subst hk
          simp only [RelT, RelC, hb] at hx
          obtain ⟨_, hnf, kk, hkk, hu, hL⟩ := hx
          have hrun : (Instr.indexAt t (.pointer (some ⟨kk, 0 * sz' + 0, none⟩)) (.int k n)).run P w = .ok (.pointer (some ⟨kk, n.toNat * ti.size, none⟩)) w := by
            simp [Instr.indexAt, asIntOf, run_underlying hD, hp', sizeOf_run (hT _ _ hte), Instr.sureAddr, Addr.add_lit]
          refine Good.same h nid (base (by rw [hu, hi']; exact hrun)) ?_
          simp only [RelT, RelC, hb]
          refine ⟨rfl, hnf, kk, hkk, ?_, ?_⟩
          · simp [std, hsz']
          · simp only [std]; omega
      · trivial
    · trivial
theorem index_ok (h : Ok Γ w S ρ ar) (hT : TTok P tt) (t : Nat) (xo io : Operand) (o : Oper) (a : Act) (ho : o.op = .index t xo io) {x i : TV} (hx : RelT w S ρ ar x (a.eval xo)) (hi : RelT w S ρ ar i (a.eval io)) :
    OutOk P Γ w S ρ ar nid ((execOp a.eval o).run P w) (doIndex (std call loop) tt ar t x i) := by
  unfold doIndex
  split
  · rename_i sz by_ z q s k n hti hin
    intro hp
    have hp' : 0 ≤ n ∧ n < (s.size : Int) := hp
    have hi' : a.eval io = .int k n := by
      unfold intOf at hin
      split at hin
      · simp only [Option.some.injEq, Prod.mk.injEq] at hin
        obtain ⟨rfl, rfl⟩ := hin
        exact relT_sc hi
      · cases hin
    obtain ⟨D, hD, hk⟩ := (hT _ _ hti).desc
    simp only [kindD] at hk; subst hk
    have hlt : n.toNat < s.size := by omega
    refine Good.same h nid ?_ (relT_val rfl)
    simp [execOp, ho, relT_sc hx, hi', Instr.index, asIntOf, run_underlying hD, hp'.1, hlt, std, byteAt]
  · trivial
theorem len_ok (h : Ok Γ w S ρ ar) (hT : TTok P tt) (t : Nat) (ts : Array TypeId) (ht : ts[0]? = some t) (ty : Nat) {x : TV} {xv : Value} (hx : RelT w S ρ ar x xv) {r : Result Next}
    (base : ∀ {u : Value}, (Builtin.len_ ts ty #[xv]).run P w = .ok u w → r = .ok (.value u) w) : OutOk P Γ w S ρ ar nid r (doLen (std call loop) tt ar t x) := by
  unfold doLen
  split
  · rename_i sz by_ z q s hti
    intro _
    obtain ⟨D, hD, hk⟩ := (hT _ _ hti).desc
    simp only [kindD] at hk; subst hk
    refine Good.same h nid (base ?_) (relT_val rfl)
    rw [relT_sc hx]; simp [Builtin.len_, ht, run_underlying hD, std, goInt]
  · rename_i e sz by_ z q b len hti
    split
    · rename_i L e' sz' f wr st hb
      intro _
      obtain ⟨D, hD, hk⟩ := (hT _ _ hti).desc
      simp only [kindD] at hk; subst hk
      simp only [RelT, RelC, hb] at hx
      obtain ⟨_, hnf, hlL, hx⟩ := hx
      refine Good.same h nid (base (u := .int .i64 (len : Int)) ?_) (relT_val rfl)
      cases hs : ρ b with
      | free => exact absurd hs hnf
      | virt =>
        rw [hs] at hx
        obtain ⟨hu, hL⟩ := hx
        have : len = 0 := by omega
        rw [hu, this]; simp [Builtin.len_, ht, run_underlying hD, goInt]
      | «at» kk =>
        rw [hs] at hx
        obtain ⟨cap, cur, fr, hu, _⟩ := hx
        rw [hu]; simp [Builtin.len_, ht, run_underlying hD, goInt]
    · trivial
  · rename_i e sz by_ z q len sz' f hti
    intro _
    obtain ⟨D, hD, hk⟩ := (hT _ _ hti).desc
    simp only [kindD] at hk; subst hk
    simp only [RelT, RelC, RelD] at hx
    obtain ⟨A, cap, hu, _⟩ := hx
    refine Good.same h nid (base ?_) (relT_val rfl)
    rw [hu]; simp [Builtin.len_, ht, run_underlying hD, std, goInt]
  · rename_i e sz by_ z q hti
    intro _
    obtain ⟨D, hD, hk⟩ := (hT _ _ hti).desc
    simp only [kindD] at hk; subst hk
    refine Good.same h nid (base ?_) (relT_val rfl)
    rw [relT_sc hx]; simp [Builtin.len_, ht, run_underlying hD, goInt]
  · trivial
theorem bnd_ok {d : Int} {x : Option TV} {n : Int} {xo : Option Operand} {a : Act} (hx : match x, xo with | some v, some o => RelT w S ρ ar v (a.eval o) | none, none => True | _, _ => False) (h : bnd d x = some n) :
    (x = none ∧ xo = none ∧ n = d) ∨ ∃ o k, xo = some o ∧ x.isSome = true ∧ a.eval o = .int k n := by
  cases x with
  | none =>
    cases xo with
    | none => simp only [bnd, Option.some.injEq] at h; exact .inl ⟨rfl, rfl, h.symm⟩
    | some o => exact hx.elim
  | some v =>
    cases xo with
    | none => exact hx.elim
    | some o =>
      simp only [bnd] at h
      cases hv : intOf v with
      | none => rw [hv] at h; cases h
      | some p =>
        obtain ⟨k, m⟩ := p
        rw [hv] at h
        simp only [Option.some.injEq] at h
        subst h
        unfold intOf at hv
        split at hv
        · simp only [Option.some.injEq, Prod.mk.injEq] at hv
          obtain ⟨rfl, rfl⟩ := hv
          exact .inr ⟨o, _, rfl, rfl, relT_sc hx⟩
        · cases hv
/-- The cuts of a slice that is `len` long. -/
theorem cut_run (t e : Nat) (ti : TI) (hD : P.underlying t = some (.slice e)) (hsz : (sizeOf e).run P w = .ok ti.size w) (A : Option Addr) (len cap : Nat) (hlc : len ≤ cap) (lo hi : Option Value) (l h : Int)
    (hlo : (lo = none ∧ l = 0) ∨ ∃ k, lo = some (.int k l)) (hhi : (hi = none ∧ h = (len : Int)) ∨ ∃ k, hi = some (.int k h)) (h1 : 0 ≤ h ∧ h ≤ (len : Int)) (h2 : 0 ≤ l ∧ l ≤ h) :
    (Instr.sliceAt t (.slice A len cap) lo hi none).run P w = .ok (.slice (if cap = l.toNat then A else A.map (·.add (l.toNat * ti.size))) (h.toNat - l.toNat) (cap - l.toNat)) w := by
  have hb : (Instr.sliceBounds true len cap lo hi none).run P w = .ok (l.toNat, h.toNat, cap) w := by
    have hh : h ≤ (cap : Int) := by omega
    have hll : l ≤ (h.toNat : Int) := by omega
    rcases hlo with ⟨rfl, rfl⟩ | ⟨k, rfl⟩ <;> rcases hhi with ⟨rfl, rfl⟩ | ⟨k', rfl⟩ <;> simp [Instr.sliceBounds, Instr.sliceBound, asIntOf, h1, h2, hh, hll] <;> omega
  simp [Instr.sliceAt, Instr.slice, run_underlying hD, hb, hsz]
theorem relD_cut {len sz cap : Nat} {f : Nat → Nat → DV} {A : Option Addr} (hx : RelD w S (.sl len sz f) (.slice A len cap)) (l h : Nat) (h1 : h ≤ len) (h2 : l ≤ h) :
    RelD w S (.sl (h - l) sz (fun i j => f (l + i) j)) (.slice (if cap = l then A else A.map (·.add (l * sz))) (h - l) (cap - l)) := by
  simp only [RelD] at hx ⊢
  obtain ⟨A', cap', hu, h3, h4, h5⟩ := hx
  injection hu with e1 e2 e3
  subst e1 e3
  refine ⟨_, _, rfl, by omega, trivial, fun h0 => ?_⟩
  obtain ⟨k, o, rfl, h6⟩ := h5 (by omega)
  rw [if_neg (by omega)]
  refine ⟨k, o + l * sz, ?_, fun i hi j hj => ?_⟩
  · simp only [Option.map_some]
    congr 1
    unfold Addr.add; split <;> simp_all
  · have := h6 (l + i) (by omega) j hj
    rw [Nat.add_mul] at this
    rw [show o + l * sz + i * sz + j = o + (l * sz + i * sz) + j from by omega]
    exact this
theorem slice_ok (h : Ok Γ w S ρ ar) (hT : TTok P tt) (t : Nat) (xo : Operand) (lo hi mx : Option Operand) (o : Oper) (a : Act) (e : Nat → TV) (he : ∀ t, RelT w S ρ ar (e t) (a.tmps.getD t undef)) (ho : o.op = .slice t xo lo hi mx) :
    OutOk P Γ w S ρ ar nid ((execOp a.eval o).run P w) (doSlice (std call loop) tt ar t (evO e xo) (lo.map (evO e)) (hi.map (evO e)) (mx.map (evO e))) := by
  have hx := ev_ok he xo
  have hopt : ∀ q : Option Operand, (match q.map (evO e), q with | some v, some o => RelT w S ρ ar v (a.eval o) | none, none => True | _, _ => False) := by
    intro q; cases q with
    | none => trivial
    | some q => exact ev_ok he q
  generalize evO e xo = x at hx
  unfold doSlice
  cases mx with
  | some m => trivial
  | none =>
    dsimp only [Option.map_none]
    have base : ∀ {u : Value}, (Instr.sliceAt t (a.eval xo) (lo.map a.eval) (hi.map a.eval) none).run P w = .ok u w → (execOp a.eval o).run P w = .ok (.value u) w := by
      intro u h1
      simp [execOp, ho, h1]
    have lohi : ∀ {d : Int} {q : Option Operand} {n : Int}, bnd d (q.map (evO e)) = some n → (q.map a.eval = none ∧ n = d ∧ q = none) ∨ ∃ k, q.map a.eval = some (.int k n) := by
      intro d q n hb
      rcases bnd_ok (hopt q) hb with ⟨_, rfl, rfl⟩ | ⟨o', k, rfl, _, hv⟩
      · exact .inl ⟨rfl, rfl, rfl⟩
      · exact .inr ⟨k, by simp [hv]⟩
    split
    · rename_i sz by_ z q s hti
      obtain ⟨D, hD, hk⟩ := (hT _ _ hti).desc
      simp only [kindD] at hk; subst hk
      split
      · rename_i l hh hl hhh
        intro hp
        obtain ⟨⟨p1, p2⟩, p3, p4⟩ : (0 ≤ hh ∧ hh ≤ (s.size : Int)) ∧ 0 ≤ l ∧ l ≤ (hh.toNat : Int) := hp
        refine Good.same h nid (base (u := .string (s.extract l.toNat hh.toNat)) ?_) (relT_val rfl)
        have e1 := lohi hl
        have e2 := lohi hhh
        have hll : l ≤ hh := by omega
        rw [relT_sc hx]
        have hb : (Instr.sliceBounds false s.size s.size (lo.map a.eval) (hi.map a.eval) none).run P w = .ok (l.toNat, hh.toNat, s.size) w := by
          have d1 : (std call loop).int ((std call loop).ssize s) = (s.size : Int) := rfl
          rcases e1 with ⟨e1, rfl, _⟩ | ⟨k, e1⟩ <;> rcases e2 with ⟨e2, rfl, _⟩ | ⟨k', e2⟩ <;> rw [e1, e2] <;> (try rw [d1] at *) <;> simp [Instr.sliceBounds, Instr.sliceBound, asIntOf, p1, p2, p3, p4] <;> omega
        simp [Instr.sliceAt, Instr.slice, run_underlying hD, hb]
      · trivial
    · rename_i el sz by_ z q len sz' f hti
      obtain ⟨D, hD, hk⟩ := (hT _ _ hti).desc
      simp only [kindD] at hk; subst hk
      split
      · rename_i ti l hh hte hl hhh
        cases hsz : Nat.beq ti.size sz' with
        | false => trivial
        | true =>
          have hsz' := Nat.eq_of_beq_eq_true hsz
          simp only [RelT, RelC] at hx
          have hx0 := hx
          simp only [RelD] at hx
          obtain ⟨A, cap, hu, h1, h2, h3⟩ := hx
          rw [hu] at hx0
          have run : 0 ≤ hh ∧ hh ≤ (len : Int) → 0 ≤ l ∧ l ≤ hh → (Instr.sliceAt t (a.eval xo) (lo.map a.eval) (hi.map a.eval) none).run P w = .ok (.slice (if cap = l.toNat then A else A.map (·.add (l.toNat * ti.size))) (hh.toNat - l.toNat) (cap - l.toNat)) w := by
            intro q1 q2
            rw [hu]
            exact cut_run t el ti hD (sizeOf_run (hT _ _ hte) w) A len cap h1 _ _ l hh ((lohi hl).imp (fun e => ⟨e.1, e.2.1⟩) id) ((lohi hhh).imp (fun e => ⟨e.1, e.2.1⟩) id) q1 q2
          dsimp only [cond_true]
          cases lo with
          | none =>
            intro hp
            have hp' : 0 ≤ hh ∧ hh ≤ (len : Int) := hp
            have hl0 : l = 0 := by simpa [bnd] using hl.symm
            subst hl0
            refine Good.same h nid (base (run hp' ⟨Int.le_refl 0, hp'.1⟩)) ?_
            have := relD_cut hx0 0 hh.toNat (by omega) (Nat.zero_le _)
            simp only [RelT, RelC, std]
            rw [← hsz'] at this ⊢
            simpa only [Nat.zero_add, Nat.sub_zero, Int.toNat_zero] using this
          | some lq =>
            intro hp
            obtain ⟨p1, p2⟩ : (0 ≤ hh ∧ hh ≤ (len : Int)) ∧ 0 ≤ l ∧ l ≤ (hh.toNat : Int) := hp
            refine Good.same h nid (base (run p1 ⟨p2.1, by omega⟩)) ?_
            have := relD_cut hx0 l.toNat hh.toNat (by omega) (by omega)
            simp only [RelT, RelC, std]
            rw [← hsz'] at this ⊢
            exact this
      · trivial
    · rename_i el sz by_ z q b len hti
      obtain ⟨D, hD, hk⟩ := (hT _ _ hti).desc
      simp only [kindD] at hk; subst hk
      split
      · rename_i L e' sz' f wr st hb
        split
        · rename_i ti l hh hte hl hhh
          cases hsz : Nat.beq ti.size sz' with
          | false => trivial
          | true =>
            have hsz' := Nat.eq_of_beq_eq_true hsz
            simp only [RelT] at hx
            obtain ⟨S1, o1, g1, hfz⟩ := h.freeze hb
            have hx0 := hfz len _ hx
            have hx1 := hx0
            simp only [RelD] at hx1
            obtain ⟨A, cap, hu, h1, h2, h3⟩ := hx1
            rw [hu] at hx0
            have run : 0 ≤ hh ∧ hh ≤ (len : Int) → 0 ≤ l ∧ l ≤ hh → (Instr.sliceAt t (a.eval xo) (lo.map a.eval) (hi.map a.eval) none).run P w = .ok (.slice (if cap = l.toNat then A else A.map (·.add (l.toNat * ti.size))) (hh.toNat - l.toNat) (cap - l.toNat)) w := by
              intro q1 q2
              rw [hu]
              exact cut_run t el ti hD (sizeOf_run (hT _ _ hte) w) A len cap h1 _ _ l hh ((lohi hl).imp (fun e => ⟨e.1, e.2.1⟩) id) ((lohi hhh).imp (fun e => ⟨e.1, e.2.1⟩) id) q1 q2
            dsimp only [cond_true]
            cases lo with
            | none =>
              intro hp
              have hp' : 0 ≤ hh ∧ hh ≤ (len : Int) := hp
              have hl0 : l = 0 := by simpa [bnd] using hl.symm
              subst hl0
              refine ⟨w, _, S1, ρ, .inl (base (run hp' ⟨Int.le_refl 0, hp'.1⟩)), o1, g1, ?_, fun _ hb => .inl hb⟩
              have := relD_cut hx0 0 hh.toNat (by omega) (Nat.zero_le _)
              simp only [RelT, RelC, std]
              rw [← hsz'] at this ⊢
              simpa only [Nat.zero_add, Nat.sub_zero, Int.toNat_zero] using this
            | some lq =>
              intro hp
              obtain ⟨p1, p2⟩ : (0 ≤ hh ∧ hh ≤ (len : Int)) ∧ 0 ≤ l ∧ l ≤ (hh.toNat : Int) := hp
              refine ⟨w, _, S1, ρ, .inl (base (run p1 ⟨p2.1, by omega⟩)), o1, g1, ?_, fun _ hb => .inl hb⟩
              have := relD_cut hx0 l.toNat hh.toNat (by omega) (by omega)
              simp only [RelT, RelC, std]
              rw [← hsz'] at this ⊢
              exact this
        · trivial
      · trivial
    · trivial
end
end Go.Proofs.YtlpcphndgjibpaaDoor.Rx
/- Append, make, literals, boxes. No program's text. No condition. -/
namespace Go.Proofs.YtlpcphndgjibpaaDoor.Rx
open Go
theorem heap_cell {w w1 : World} (h : w1.heap = w.heap) (a : Addr) : w1.cell? a = w.cell? a := by simp [World.cell?, h]
section
variable {P : Program} {tt : TT} {Γ : Ctx} {w : World} {S : Stab} {ρ : Rho} {ar : Ar} {nid : Nat} {call : CallT} {loop : LoopT}
/-- The cells of `m` elements that lie from an address on. -/
theorem row_cells (k o m sz : Nat) (g : Nat → Nat → DV) (h : ∀ i, i < m → ∀ j, j < sz → ∃ c, w.cell? ⟨k, o + i * sz + j, none⟩ = some c ∧ RelD w S (g i j) c) :
    ∃ news : List Value, news.length = m * sz ∧ (∀ w1 : World, w1.heap = w.heap → (loadCells ⟨k, o, none⟩ (m * sz)).run P w1 = .ok news.toArray w1) ∧
      (∀ i, i < m → ∀ j, j < sz → ∃ c, news[i * sz + j]? = some c ∧ RelD w S (g i j) c) ∧ ∀ v ∈ news, isCell v = true := by
  have hq : ∀ q, q < m * sz → ∃ c, w.cell? ⟨k, o + q, none⟩ = some c ∧ isCell c = true := by
    intro q hq
    have hsz : 0 < sz := by
      rcases Nat.eq_zero_or_pos sz with e | e
      · subst e; omega
      · exact e
    obtain ⟨c, hc, hd⟩ := h (q / sz) (Nat.div_lt_of_lt_mul (by rw [Nat.mul_comm]; exact hq)) (q % sz) (Nat.mod_lt _ hsz)
    refine ⟨c, ?_, hd.cell⟩
    rw [← hc]
    have := Nat.div_add_mod q sz
    rw [Nat.mul_comm] at this
    congr 2; omega
  have hl : ((List.range (m * sz)).map fun q => (w.cell? ⟨k, o + q, none⟩).getD undef).length = m * sz := by simp
  refine ⟨(List.range (m * sz)).map fun q => (w.cell? ⟨k, o + q, none⟩).getD undef, hl, fun w1 h1 => ?_, fun i hi j hj => ?_, fun v hv => ?_⟩
  · have hrun := run_loadCells_list (P := P) w1 ⟨k, o, none⟩ ((List.range (m * sz)).map fun q => (w.cell? ⟨k, o + q, none⟩).getD undef) (fun q v hv => by
      have hadd : (⟨k, o, none⟩ : Addr).add q = ⟨k, o + q, none⟩ := by unfold Addr.add; split <;> simp_all
      rw [hadd, heap_cell h1]
      have hlt : q < m * sz := by have := (List.getElem?_eq_some_iff.1 hv).1; rw [hl] at this; exact this
      obtain ⟨c, hc, _⟩ := hq q hlt
      rw [List.getElem?_map, List.getElem?_range hlt] at hv
      simp only [Option.map_some, Option.some.injEq] at hv
      rw [← hv, hc]; rfl)
    rw [hl] at hrun
    exact hrun
  · obtain ⟨c, hc, hd⟩ := h i hi j hj
    have hlt : i * sz + j < m * sz := by
      have := Nat.mul_le_mul_right sz (show i + 1 ≤ m from hi)
      rw [Nat.add_mul] at this; omega
    refine ⟨c, ?_, hd⟩
    rw [List.getElem?_map, List.getElem?_range hlt, Option.map_some, ← Nat.add_assoc, hc]; rfl
  · obtain ⟨q, hq1, rfl⟩ := List.mem_map.1 hv
    obtain ⟨c, hc, h1⟩ := hq q (List.mem_range.1 hq1)
    rw [hc]; exact h1
theorem src_ok (h : Ok Γ w S ρ ar) {sz m : Nat} {g : Nat → Nat → DV} {y : TV} {u : Value} (hy : RelT w S ρ ar y u) (hs : srcOf (std call loop) ar sz y = some (m, g)) :
    ∃ news : List Value, news.length = m * sz ∧ (∀ w1 : World, (Builtin.lenOf u).run P w1 = .ok m w1) ∧ (∀ w1 : World, w1.heap = w.heap → (Builtin.firstCells sz m u).run P w1 = .ok news.toArray w1) ∧
      (∀ i, i < m → ∀ j, j < sz → ∃ c, news[i * sz + j]? = some c ∧ RelD w S (g i j) c) ∧ ∀ v ∈ news, isCell v = true := by
  unfold srcOf at hs
  split at hs
  · rename_i s
    cases h1 : Nat.beq sz 1 with
    | false => rw [h1] at hs; cases hs
    | true =>
      rw [h1] at hs
      have := Nat.eq_of_beq_eq_true h1
      subst this
      simp only [cond_true, Option.some.injEq, Prod.mk.injEq] at hs
      obtain ⟨rfl, rfl⟩ := hs
      have hu := relT_sc hy
      subst hu
      have hl : (s.data.toList.map fun b => Value.int .u8 (b.toNat : Int)).length = s.size := by rw [List.length_map, Array.length_toList]; rfl
      refine ⟨s.data.toList.map fun b => .int .u8 (b.toNat : Int), by rw [hl]; exact (Nat.mul_one _).symm, fun w1 => by simp only [Builtin.lenOf, Sem.run_pure]; rfl, fun w1 h1 => ?_, fun i hi j hj => ?_, fun v hv => ?_⟩
      · simp only [Builtin.firstCells, std, Sem.run_pure]
        congr 1
        have he : s.extract 0 s.size = s := by
          apply ByteArray.ext
          rw [ByteArray.data_extract]
          exact Array.extract_size
        rw [he]
        apply Array.ext'
        simp
      · have hi' : i < s.size := hi
        obtain rfl : j = 0 := by omega
        refine ⟨.int .u8 (byteAt s (i : Int)), ?_, by simp [RelD, std, isCell]⟩
        simp only [Nat.mul_one, Nat.add_zero, List.getElem?_map]
        rw [show s.data.toList[i]? = some (s[i]'hi') from by rw [Array.getElem?_toList, Array.getElem?_eq_getElem (show i < s.data.size from hi')]; rfl]
        simp [byteAt, hi']
      · obtain ⟨b, _, rfl⟩ := List.mem_map.1 hv; rfl
  · simp only [Option.some.injEq, Prod.mk.injEq] at hs
    obtain ⟨rfl, rfl⟩ := hs
    have hu := relT_sc hy
    subst hu
    exact ⟨[], by simp, fun w1 => by simp [Builtin.lenOf], fun w1 _ => by simp [Builtin.firstCells], fun i hi => by omega, fun v hv => by simp at hv⟩
  · rename_i n sz' g'
    cases h1 : Nat.beq sz sz' with
    | false => rw [h1] at hs; cases hs
    | true =>
      rw [h1] at hs
      have := Nat.eq_of_beq_eq_true h1
      subst this
      simp only [cond_true, Option.some.injEq, Prod.mk.injEq] at hs
      obtain ⟨rfl, rfl⟩ := hs
      simp only [RelT, RelC, RelD] at hy
      obtain ⟨A, cap, rfl, h2, h3, h4⟩ := hy
      rcases Nat.eq_zero_or_pos n with e | e
      · subst e
        refine ⟨[], by simp, fun w1 => by simp [Builtin.lenOf], fun w1 _ => ?_, fun i hi => by omega, fun v hv => by simp at hv⟩
        cases A <;> simp [Builtin.firstCells, loadCells, loadCellsFrom]
      · obtain ⟨k, o, rfl, h5⟩ := h4 e
        obtain ⟨news, n1, n2, n3, n4⟩ := row_cells (P := P) (w := w) (S := S) k o n sz g' (fun i hi j hj => (h5 i hi j hj).2)
        exact ⟨news, n1, fun w1 => by simp [Builtin.lenOf], fun w1 hw => by simpa [Builtin.firstCells] using n2 w1 hw, n3, n4⟩
  · rename_i b n
    split at hs
    · rename_i L e' sz' g' wr st hb
      cases h1 : Nat.beq sz sz' with
      | false => rw [h1] at hs; cases hs
      | true =>
        rw [h1] at hs
        have := Nat.eq_of_beq_eq_true h1
        subst this
        simp only [cond_true, Option.some.injEq, Prod.mk.injEq] at hs
        obtain ⟨rfl, rfl⟩ := hs
        have hB := h.blk b
        unfold RelB at hB
        rw [hb] at hB
        simp only [RelT, RelC, hb] at hy
        obtain ⟨_, hnf, hlL, hy⟩ := hy
        dsimp only at hB
        cases hr : ρ b with
        | free => exact absurd hr hnf
        | virt =>
          rw [hr] at hy
          obtain ⟨rfl, hL⟩ := hy
          have : n = 0 := by omega
          subst this
          exact ⟨[], by simp, fun w1 => by simp [Builtin.lenOf], fun w1 _ => by simp [Builtin.firstCells], fun i hi => by omega, fun v hv => by simp at hv⟩
        | «at» k =>
          rw [hr] at hy hB
          obtain ⟨cap, cur, fr, rfl, c1, c2, c3, c4⟩ := hy
          obtain ⟨cap', cur', fr', k1, k2, k3, k4, k5, k6, k7, k8⟩ := hB
          obtain ⟨news, n1, n2, n3, n4⟩ := row_cells (P := P) (w := w) (S := S) k 0 n sz g' (fun i hi j hj => by
            obtain ⟨c, hc, hd⟩ := k7 i (by omega) j hj
            exact ⟨c, by rw [Nat.zero_add, cell_of_row w k _ cur' e' fr' k1]; exact hc, hd⟩)
          exact ⟨news, n1, fun w1 => by simp [Builtin.lenOf], fun w1 hw => by simpa [Builtin.firstCells] using n2 w1 hw, n3, n4⟩
    · cases hs
  · cases hs
theorem appF_ok {L m : Nat} {f g : Nat → Nat → DV} {i j : Nat} {u : Value} (h : RelD w S (if i < L then f i j else g (i - L) j) u) : RelD w S (appF (std call loop) L f g i j) u := by
  unfold appF
  refine merge_ok ?_
  by_cases hi : i < L
  · rw [if_pos hi] at h; simpa [std, hi] using h
  · rw [if_neg hi] at h; simpa [std, hi] using h
theorem zeroCells_size (z : Array Value) (n : Nat) : (Builtin.zeroCells z n).size = n * z.size := by simp [Builtin.zeroCells]
theorem two_types {tt : TT} (hT : TTok P tt) {u : Nat} (h : notInt tt u = true) : ∃ d, P.underlying u = some d ∧ ∀ k, d ≠ .int k := by
  unfold notInt at h
  split at h
  · rename_i e sz by_ z q hu
    obtain ⟨D, hD, hk⟩ := (hT _ _ hu).desc
    simp only [kindD] at hk; subst hk
    exact ⟨_, hD, fun k e => by cases e⟩
  · rename_i sz by_ z q hu
    obtain ⟨D, hD, hk⟩ := (hT _ _ hu).desc
    simp only [kindD] at hk; subst hk
    exact ⟨_, hD, fun k e => by cases e⟩
  · cases h
/-- A new row for what was there and what comes behind. -/
theorem grown_ok (h : Ok Γ w S ρ ar) (hfree : ρ nid = .free) (e : Nat) (ti : TI) (hti : TIok P e ti) (L m c : Nat) (xs news : List Value) (F : Nat → Nat → DV) (wr : Bool) (hxs : xs.length = L * ti.size) (hn : news.length = m * ti.size)
    (z : Value) (hz : z.cells.size = ti.size) (hc : L + m ≤ c) (hm : c ≤ maxLen)
    (hF : ∀ i, i < L + m → ∀ j, j < ti.size → ∃ v, (xs ++ news)[i * ti.size + j]? = some v ∧ RelD w S (F i j) v) :
    Ok Γ (w.drew.alloc (.cells (xs.toArray ++ news.toArray ++ Builtin.zeroCells z.cells (c - (L + m))) e)) S (setR ρ nid (.at w.heap.size)) (setB ar nid (.vec (L + m) e ti.size F wr false)) ∧
    Goes w S ρ ar (w.drew.alloc (.cells (xs.toArray ++ news.toArray ++ Builtin.zeroCells z.cells (c - (L + m))) e)) S (setR ρ nid (.at w.heap.size)) (setB ar nid (.vec (L + m) e ti.size F wr false)) ∧
    RelC (w.drew.alloc (.cells (xs.toArray ++ news.toArray ++ Builtin.zeroCells z.cells (c - (L + m))) e)) S (setR ρ nid (.at w.heap.size)) (setB ar nid (.vec (L + m) e ti.size F wr false)) (.own nid (L + m)) (.slice (some ⟨w.heap.size, 0, none⟩) (L + m) c) := by
  refine h.newVec hfree (L + m) e ti.size F wr false c (xs.toArray ++ news.toArray ++ Builtin.zeroCells z.cells (c - (L + m))) (0, 0) (fun k hk => heap_alloc_lt w.drew _ k hk) rfl rfl rfl (by simp) (heap_alloc_new w.drew _) (.inl rfl) (fun _ => rfl) hc hm ?_ ?_
  · simp only [Array.size_append, List.size_toArray, zeroCells_size, hz, hxs, hn, ← Nat.add_mul]
    congr 1; omega
  · intro i hi j hj
    obtain ⟨v, hv, hr⟩ := hF i hi j hj
    refine ⟨v, ?_, hr⟩
    have hlt : i * ti.size + j < (xs ++ news).length := (List.getElem?_eq_some_iff.1 hv).1
    rw [← Array.getElem?_toList]
    simp only [Array.toList_append]
    rw [List.getElem?_append_left (by simpa using hlt)]
    exact hv
theorem app_cells {xs news : List Value} {L m sz : Nat} {f g : Nat → Nat → DV} (hx : xs.length = L * sz) (hf : ∀ i, i < L → ∀ j, j < sz → ∃ c, xs[i * sz + j]? = some c ∧ RelD w S (f i j) c)
    (hg : ∀ i, i < m → ∀ j, j < sz → ∃ c, news[i * sz + j]? = some c ∧ RelD w S (g i j) c) :
    ∀ i, i < L + m → ∀ j, j < sz → ∃ v, (xs ++ news)[i * sz + j]? = some v ∧ RelD w S (appF (std call loop) L f g i j) v := by
  intro i hi j hj
  by_cases h : i < L
  · obtain ⟨c, hc, hd⟩ := hf i h j hj
    refine ⟨c, ?_, appF_ok (m := m) (by rw [if_pos h]; exact hd)⟩
    rw [List.getElem?_append_left (List.getElem?_eq_some_iff.1 hc).1]; exact hc
  · obtain ⟨c, hc, hd⟩ := hg (i - L) (by omega) j hj
    refine ⟨c, ?_, appF_ok (m := m) (by rw [if_neg h]; exact hd)⟩
    have hm : i * sz + j = L * sz + ((i - L) * sz + j) := by rw [← Nat.add_assoc, ← Nat.add_mul]; congr 2; omega
    rw [hm, List.getElem?_append_right (by omega), hx, Nat.add_sub_cancel_left]; exact hc
theorem append_ok (h : Ok Γ w S ρ ar) (hT : TTok P tt) (hfree : ρ nid = .free) (t u : Nat) (ts : Array TypeId) (ht : ts[0]? = some t) (hu : ts[1]? = some u) (ty : Nat) {x y : TV} {xv yv : Value} (hx : RelT w S ρ ar x xv) (hy : RelT w S ρ ar y yv) {r : Result Next}
    (base : ∀ {v : Value} {w' : World}, (Builtin.append_ ts ty #[xv, yv]).run P w = .ok v w' → r = .ok (.value v) w') : OutOk P Γ w S ρ ar nid r (doAppend (std call loop) tt ar nid t u x y) := by
  have ids : ∀ {ρ1 : Rho} {s : Slot}, (∀ b, ρ1 b ≠ .free → ρ b ≠ .free) → ∀ b, setR ρ1 nid s b ≠ .free → ρ b ≠ .free ∨ (nid ≤ b ∧ b < nid + 8) := by
    intro ρ1 s h1 b hb
    by_cases hbn : b = nid
    · exact .inr (by omega)
    · rw [setR_other _ _ hbn] at hb; exact .inl (h1 b hb)
  unfold doAppend
  split
  · rename_i e sz0 by0 z0 q0 hti
    obtain ⟨D, hD, hk⟩ := (hT _ _ hti).desc
    simp only [kindD] at hk; subst hk
    cases hte : tt e with
    | none => trivial
    | some ti =>
      dsimp only
      cases hg0 : (Nat.beq ti.bytes 0 || !notInt tt u) with
      | true => trivial
      | false =>
        simp only [Bool.or_eq_false_iff, Bool.not_eq_false'] at hg0
        have hby : 0 < ti.bytes := by
          rcases Nat.eq_zero_or_pos ti.bytes with e1 | e1
          · rw [e1] at hg0; simp at hg0
          · exact e1
        obtain ⟨d2, hd2, hd3⟩ := two_types hT hg0.2
        have hi := hT _ _ hte
        obtain ⟨i, z, hinf, hzero, hsz, hbytes, hzc⟩ := hi.info
        have hzs : z.cells.size = ti.size := by rw [← Array.length_toList, hzc, hi.zlen]
        have hby' : 0 < i.bytes := by rw [hbytes]; exact hby
        dsimp only [cond_false]
        cases hsrc : srcOf (std call loop) ar ti.size y with
        | none => trivial
        | some p =>
          obtain ⟨m, g⟩ := p
          obtain ⟨news, n1, n2, n3, n4, n5⟩ := src_ok (P := P) h hy hsrc
          dsimp only
          split
          · intro hcap
            have hcap' : m * ti.bytes ≤ 140737488355328 := hcap
            have hxv := relT_sc hx
            subst hxv
            rcases Nat.eq_zero_or_pos m with e0 | e0
            · subst e0
              obtain rfl : news = [] := List.eq_nil_of_length_eq_zero (by simpa using n1)
              have hrun := run_app_none (P := P) w ts ty t u e i d2 ht hu hD hd2 hd3 hinf yv (n2 w) (by rw [hsz]; simpa using n3 w rfl)
              obtain ⟨o1, g1, r1⟩ := h.newVirt hfree e ti.size g true
              exact ⟨w, _, S, _, .inl (base hrun), o1, g1, by simp only [RelT]; exact r1, ids (fun _ hb => hb)⟩
            · obtain ⟨c, c1, c2, hrun⟩ := run_app_grow (P := P) w ts ty t u e i z d2 ht hu hD hd2 hd3 hinf hzero hby' none 0 0 m yv [] news (n2 w) (by simp [Builtin.firstCells]) (by rw [hsz]; exact n3 _ rfl) (by omega) (by rw [Nat.zero_add, hbytes]; exact hcap')
              obtain ⟨o1, g1, r1⟩ := grown_ok h hfree e ti hi 0 m c [] news g true (by simp) n1 z hzs c1 c2 (fun q hq j hj => by
                rw [Nat.zero_add] at hq
                simpa using n4 q hq j hj)
              simp only [Nat.zero_add] at hrun o1 g1 r1
              exact ⟨_, _, S, _, .inl (base hrun), o1, g1, by simp only [RelT]; exact r1, ids (fun _ hb => hb)⟩
          · rename_i b len
            split
            · rename_i L e' sz' f wr hb
              cases hg1 : (Nat.beq e e' && Nat.beq sz' ti.size) with
              | false => trivial
              | true =>
                simp only [Bool.and_eq_true] at hg1
                have he' := Nat.eq_of_beq_eq_true hg1.1
                have hs' := Nat.eq_of_beq_eq_true hg1.2
                subst he' hs'
                rintro ⟨hlen, hcap⟩
                have hlen' : len = L := hlen
                subst hlen'
                have hcap' : (len + m) * ti.bytes ≤ 140737488355328 := hcap
                have hB := h.blk b
                unfold RelB at hB
                rw [hb] at hB
                dsimp only at hB
                simp only [RelT, RelC, hb] at hx
                obtain ⟨_, hnf, _, hx⟩ := hx
                have hbn : b ≠ nid := fun e1 => hnf (e1 ▸ hfree)
                have hkill := h.kill hnf
                have hfree1 : setR ρ b .virt nid = .free := by rw [setR_other _ _ (Ne.symm hbn)]; exact hfree
                have ids1 : ∀ b', setR ρ b .virt b' ≠ .free → ρ b' ≠ .free := fun b' hb' => by
                  by_cases h1 : b' = b
                  · rw [h1]; exact hnf
                  · rw [setR_other _ _ h1] at hb'; exact hb'
                have n4' : ∀ q, q < m → ∀ j, j < ti.size → ∃ c, news[q * ti.size + j]? = some c ∧ RelD w S (g q j) c := n4
                cases hr : ρ b with
                | free => exact absurd hr hnf
                | virt =>
                  rw [hr] at hx hB
                  obtain ⟨rfl, hL0⟩ := hx
                  subst hL0
                  rcases Nat.eq_zero_or_pos m with e0 | e0
                  · subst e0
                    obtain rfl : news = [] := List.eq_nil_of_length_eq_zero (by simpa using n1)
                    have hrun := run_app_none (P := P) w ts ty t u e i d2 ht hu hD hd2 hd3 hinf yv (n2 w) (by rw [hsz]; simpa using n3 w rfl)
                    obtain ⟨o1, g1, r1⟩ := hkill.1.newVirt hfree1 e ti.size (appF (std call loop) 0 f g) wr
                    exact ⟨w, _, S, _, .inl (base hrun), o1, hkill.2.trans g1, by simp only [RelT]; exact r1, ids ids1⟩
                  · obtain ⟨c, c1, c2, hrun⟩ := run_app_grow (P := P) w ts ty t u e i z d2 ht hu hD hd2 hd3 hinf hzero hby' none 0 0 m yv [] news (n2 w) (by simp [Builtin.firstCells]) (by rw [hsz]; exact n3 _ rfl) (by omega) (by rw [hbytes]; exact hcap')
                    obtain ⟨o1, g1, r1⟩ := grown_ok hkill.1 hfree1 e ti hi 0 m c [] news (appF (std call loop) 0 f g) wr (by simp) n1 z hzs c1 c2 (app_cells (by simp) (fun q hq => by omega) n4')
                    exact ⟨_, _, S, _, .inl (base hrun), o1, hkill.2.trans g1, by simp only [RelT]; exact r1, ids ids1⟩
                | «at» k =>
                  rw [hr] at hx hB
                  obtain ⟨cap, cur, fr, rfl, c1, c2, c3, c4⟩ := hx
                  obtain ⟨cap', cur', fr', k1, k2, k3, k4, k5, k6, k7, k8⟩ := hB
                  rw [c3] at k1; injection k1 with k1; injection k1 with e1 e2 e3
                  subst e1 e3
                  obtain rfl := k3 rfl
                  have hpre : ∀ q, q < len * ti.size → q < cur.size := fun q hq => by
                    have := Nat.mul_le_mul_right ti.size c1
                    omega
                  by_cases hroom : len + m ≤ cap
                  · have hrun := run_app_room (P := P) w ts ty t u e i d2 ht hu hD hd2 hd3 hinf k len cap m cur c3 yv news (n2 w) (by rw [hsz]; exact n3 w rfl) (by rw [hsz]; exact n1) n5 hroom (by rw [hsz]; exact c4)
                    rw [hsz] at hrun
                    have hsize : (cur.toList.take (len * ti.size) ++ news ++ cur.toList.drop (len * ti.size + news.length)).toArray.size = cur.size := by
                      have h1 := Nat.mul_le_mul_right ti.size hroom
                      rw [Nat.add_mul] at h1
                      simp only [List.size_toArray, List.length_append, List.length_take, List.length_drop, Array.length_toList, n1]
                      omega
                    have hat : ∀ q, (cur.toList.take (len * ti.size) ++ news ++ cur.toList.drop (len * ti.size + news.length)).toArray[q]? = if q < len * ti.size then cur[q]? else if q < len * ti.size + news.length then news[q - len * ti.size]? else cur[q]? := by
                      intro q
                      have hle : len * ti.size ≤ cur.toList.length := by
                        have h1 := Nat.mul_le_mul_right ti.size c1
                        rw [Array.length_toList]; omega
                      rw [List.getElem?_toArray, List.append_assoc]
                      by_cases h1 : q < len * ti.size
                      · rw [if_pos h1, List.getElem?_append_left (by rw [List.length_take]; omega), List.getElem?_take, if_pos h1, Array.getElem?_toList]
                      · rw [if_neg h1, List.getElem?_append_right (by rw [List.length_take]; omega), List.length_take, Nat.min_eq_left hle]
                        by_cases h2 : q < len * ti.size + news.length
                        · rw [if_pos h2, List.getElem?_append_left (by omega)]
                        · rw [if_neg h2, List.getElem?_append_right (by omega), List.getElem?_drop, Array.getElem?_toList]
                          congr 1; omega
                    obtain ⟨o1, g1, r1⟩ := h.behind (f' := appF (std call loop) len f g) (L' := len + m) hfree hb hr c3 c4 c2 hsize hroom (by omega) (fun q hq => by rw [hat, if_pos hq]) (fun a ha j hj => by
                      by_cases h1 : a < len
                      · obtain ⟨c, hc, hd⟩ := k7 a h1 j hj
                        refine ⟨c, ?_, appF_ok (m := m) (by rw [if_pos h1]; exact hd)⟩
                        have hlt : a * ti.size + j < len * ti.size := by
                          have := Nat.mul_le_mul_right ti.size (show a + 1 ≤ len from h1)
                          rw [Nat.add_mul] at this; omega
                        rw [hat, if_pos hlt]; exact hc
                      · obtain ⟨c, hc, hd⟩ := n4' (a - len) (by omega) j hj
                        refine ⟨c, ?_, appF_ok (m := m) (by rw [if_neg h1]; exact hd)⟩
                        have hm : a * ti.size + j = len * ti.size + ((a - len) * ti.size + j) := by rw [← Nat.add_assoc, ← Nat.add_mul]; congr 2; omega
                        have hlt := (List.getElem?_eq_some_iff.1 hc).1
                        rw [hat, hm, if_neg (by omega), if_pos (by omega), Nat.add_sub_cancel_left]; exact hc)
                    refine ⟨_, _, S, _, .inl (base hrun), o1, g1, by simp only [RelT]; exact r1, ids ids1⟩
                  · have hold : ∃ xs : List Value, xs.length = len * ti.size ∧ (Builtin.firstCells ti.size len (.slice (some ⟨k, 0, none⟩) len cap)).run P w.drew = .ok xs.toArray w.drew ∧ ∀ a, a < len → ∀ j, j < ti.size → ∃ c, xs[a * ti.size + j]? = some c ∧ RelD w S (f a j) c := by
                      obtain ⟨xs, x1, x2, x3, x4⟩ := row_cells (P := P) (w := w) (S := S) k 0 len ti.size f (fun a ha j hj => by
                        obtain ⟨c, hc, hd⟩ := k7 a ha j hj
                        exact ⟨c, by rw [Nat.zero_add, cell_of_row w k _ cur e (0, 0) c3]; exact hc, hd⟩)
                      exact ⟨xs, x1, by simpa [Builtin.firstCells] using x2 w.drew rfl, x3⟩
                    obtain ⟨xs, x1, x2, x3⟩ := hold
                    obtain ⟨c, c5, c6, hrun⟩ := run_app_grow (P := P) w ts ty t u e i z d2 ht hu hD hd2 hd3 hinf hzero hby' (some ⟨k, 0, none⟩) len cap m yv xs news (n2 w) (by rw [hsz]; exact x2) (by rw [hsz]; exact n3 _ rfl) (by omega) (by rw [hbytes]; exact hcap')
                    obtain ⟨o1, g1, r1⟩ := grown_ok hkill.1 hfree1 e ti hi len m c xs news (appF (std call loop) len f g) wr x1 n1 z hzs c5 c6 (app_cells x1 x3 n4')
                    exact ⟨_, _, S, _, .inl (base hrun), o1, hkill.2.trans g1, by simp only [RelT]; exact r1, ids ids1⟩
            · trivial
          · trivial
  · trivial
end
end Go.Proofs.YtlpcphndgjibpaaDoor.Rx
/- Boxes, literals, makes, conversions. No program's text. No condition. -/
namespace Go.Proofs.YtlpcphndgjibpaaDoor.Rx
open Go
section
variable {P : Program} {tt : TT} {Γ : Ctx} {w : World} {S : Stab} {ρ : Rho} {ar : Ar} {nid : Nat} {call : CallT} {loop : LoopT}
theorem ids_new {ρ : Rho} {nid : Nat} {s : Slot} : ∀ b, setR ρ nid s b ≠ .free → ρ b ≠ .free ∨ (nid ≤ b ∧ b < nid + 8) := by
  intro b hb
  by_cases hbn : b = nid
  · exact .inr (by omega)
  · rw [setR_other _ _ hbn] at hb; exact .inl hb
theorem zeroC_ok {z : List Value} (h : ∀ v ∈ z, isCell v = true) : RelCs w S ρ ar (zeroC z) z := by
  refine relCs_iff.2 ⟨by simp [zeroC], fun i x u hx hu => ?_⟩
  unfold zeroC at hx
  rw [List.getElem?_map, hu] at hx
  simp only [Option.map_some, Option.some.injEq] at hx
  subst hx
  unfold RelC RelD
  exact ⟨rfl, h u (List.mem_of_getElem? hu)⟩
theorem box_ok (h : Ok Γ w S ρ ar) (hfree : ρ nid = .free) (t : Nat) (xo : Operand) (o : Oper) (a : Act) (ho : o.op = .box t xo) {x : TV} (hx : RelT w S ρ ar x (a.eval xo)) :
    OutOk P Γ w S ρ ar nid ((execOp a.eval o).run P w) (doBox tt ar nid t x) := by
  unfold doBox
  split
  · rename_i ti cs hti hcs
    intro _
    obtain ⟨o1, g1, r1⟩ := h.newBox hfree cs (a.eval xo).cells t (cellsOf_ok hx hcs)
    refine ⟨_, _, S, _, .inl ?_, o1, g1, by simp only [RelT]; exact r1, ids_new⟩
    simp [execOp, ho, Instr.box, newVar, newRow]
  · trivial
theorem flat_get {n sz : Nat} {z : List Value} (hz : z.length = sz) : ∀ i j, i < n → j < sz → ((List.replicate n z).flatten)[i * sz + j]? = z[j]? := by
  intro i
  induction i generalizing n with
  | zero =>
    intro j hn hj
    obtain ⟨m, rfl⟩ : ∃ m, n = m + 1 := ⟨n - 1, by omega⟩
    rw [List.replicate_succ, List.flatten_cons, Nat.zero_mul, Nat.zero_add, List.getElem?_append_left (by omega)]
  | succ i ih =>
    intro j hn hj
    obtain ⟨m, rfl⟩ : ∃ m, n = m + 1 := ⟨n - 1, by omega⟩
    rw [List.replicate_succ, List.flatten_cons, List.getElem?_append_right (by rw [hz, Nat.add_mul]; omega), ← ih j (by omega : i < m) hj]
    congr 1
    rw [hz, Nat.add_mul]; omega
theorem zeroF_get {z : List Value} (hz : ∀ v ∈ z, isCell v = true) (i j : Nat) (hj : j < z.length) : ∃ c, z[j]? = some c ∧ RelD w S (zeroF z i j) c := by
  refine ⟨z[j], List.getElem?_eq_getElem hj, ?_⟩
  unfold zeroF
  rw [nth_eq, List.getElem?_eq_getElem hj]
  dsimp only
  unfold RelD
  exact ⟨rfl, hz _ (List.getElem_mem hj)⟩
theorem alloc_ok (h : Ok Γ w S ρ ar) (hT : TTok P tt) (hfree : ρ nid = .free) (t : Nat) (o : Oper) (a : Act) (ho : o.op = .alloc t) :
    OutOk P Γ w S ρ ar nid ((execOp a.eval o).run P w) (doAlloc tt ar nid t) := by
  have base : ∀ {z : Value}, (zeroValue t).run P w = .ok z w → (execOp a.eval o).run P w = .ok (.value (.pointer (some ⟨w.heap.size, 0, none⟩))) (w.alloc (.cells z.cells t)) := by
    intro z hz
    simp [execOp, ho, Instr.alloc, hz, newVar, newRow]
  unfold doAlloc
  split
  · rename_i n e sz by_ z q hti
    cases hte : tt e with
    | none => trivial
    | some ti =>
      dsimp only
      cases hn0 : Nat.beq n 0 with
      | true => trivial
      | false =>
      have hn : 0 < n := by
        rcases Nat.eq_zero_or_pos n with e1 | e1
        · rw [e1] at hn0; simp at hn0
        · exact e1
      intro _
      have hA := hT _ _ hti
      have hE := hT _ _ hte
      obtain ⟨zv, hz1, hz2⟩ := zero_run hA w
      obtain ⟨i, ze, hi1, hi2, hi3, hi4⟩ := hA.arr n e rfl
      obtain ⟨i', ze', hj1, hj2, hj3, _, hj5⟩ := hE.info
      rw [hi1] at hj1; injection hj1 with hj1; subst hj1
      rw [hi2] at hj2; injection hj2 with hj2; subst hj2
      rw [hj5] at hi3
      dsimp only at hz2 hi3
      have hlen : zv.cells.size = n * ti.size := by
        rw [← Array.length_toList, hz2, hi3]
        simp [hE.zlen]
      obtain ⟨o1, g1, r1⟩ := h.newVec hfree n t ti.size (zeroF ti.zero) true true n zv.cells (0, 0) (fun k hk => heap_alloc_lt w _ k hk) rfl rfl rfl (by simp) (heap_alloc_new w _) (.inl rfl) (fun _ => rfl) (Nat.le_refl _) hi4 hlen (fun i' hi' j hj => by
        obtain ⟨c, hc, hd⟩ := zeroF_get (w := w) (S := S) hE.cells i' j (by rw [hE.zlen]; exact hj)
        refine ⟨c, ?_, hd⟩
        rw [← Array.getElem?_toList, hz2, hi3, flat_get hE.zlen i' j hi' hj]; exact hc)
      refine ⟨_, _, S, _, .inl (base hz1), o1, g1, ?_, ids_new⟩
      simp only [RelT, RelC, setB_same, setR_same]
      exact ⟨rfl, by simp, w.heap.size, rfl, by simp, hn⟩
  · rename_i ti hne hti
    intro _
    have hA := hT _ _ hti
    obtain ⟨zv, hz1, hz2⟩ := zero_run hA w
    obtain ⟨o1, g1, r1⟩ := h.newBox hfree (zeroC ti.zero) zv.cells t (by rw [hz2]; exact zeroC_ok hA.cells)
    exact ⟨_, _, S, _, .inl (base hz1), o1, g1, by simp only [RelT]; exact r1, ids_new⟩
  · trivial
theorem make_ok (h : Ok Γ w S ρ ar) (hT : TTok P tt) (hfree : ρ nid = .free) (t : Nat) (lo co : Operand) (o : Oper) (a : Act) (ho : o.op = .makeSlice t lo co) {l c : TV} (hl : RelT w S ρ ar l (a.eval lo)) (hc : RelT w S ρ ar c (a.eval co)) :
    OutOk P Γ w S ρ ar nid ((execOp a.eval o).run P w) (doMake (std call loop) tt ar nid t l c) := by
  have int_of : ∀ {x : TV} {u : Value} {k : IntKind} {n : Int}, RelT w S ρ ar x u → intOf x = some (k, n) → u = .int k n := by
    intro x u k n hx hi
    unfold intOf at hi
    split at hi
    · simp only [Option.some.injEq, Prod.mk.injEq] at hi
      obtain ⟨rfl, rfl⟩ := hi
      exact relT_sc hx
    · cases hi
  unfold doMake
  split
  · rename_i e sz by_ z q kl ln kc cn hti hli hci
    cases hte : tt e with
    | none => trivial
    | some ti =>
      intro hp
      obtain ⟨p1, p2, p3, p4⟩ : 0 ≤ ln ∧ ln ≤ cn ∧ cn * (ti.bytes : Int) ≤ 281474976710656 ∧ cn ≤ 9223372036854775807 := hp
      have hE := hT _ _ hte
      obtain ⟨D, hD, hk⟩ := (hT _ _ hti).desc
      simp only [kindD] at hk; subst hk
      obtain ⟨i, zv, hinf, hzero, hsz, hbytes, hzc⟩ := hE.info
      have hzs : zv.cells.size = ti.size := by rw [← Array.length_toList, hzc, hE.zlen]
      have hrun := run_make (P := P) w t e i zv hD hinf hzero kl kc ln cn p1 p2 (by rw [hbytes, Int.mul_comm]; exact p3) p4
      obtain ⟨o1, g1, r1⟩ := h.newVec hfree ln.toNat e ti.size (zeroF ti.zero) true false cn.toNat (madeCells zv.cells (cn.toNat * i.size)) (0, 0) (fun k hk => heap_alloc_lt w _ k hk) rfl rfl rfl (by simp) (heap_alloc_new w _) (.inl rfl) (fun _ => rfl) (by omega) (by simp only [maxLen]; omega) (by rw [size_madeCells, hsz]) (fun q hq j hj => by
        obtain ⟨c', hc', hd⟩ := zeroF_get (w := w) (S := S) hE.cells q j (by rw [hE.zlen]; exact hj)
        refine ⟨c', ?_, hd⟩
        have hlt : q * ti.size + j < cn.toNat * i.size := by
          have := Nat.mul_le_mul_right ti.size (show q + 1 ≤ cn.toNat by omega)
          rw [Nat.add_mul] at this
          rw [hsz]; omega
        have hmod : (q * ti.size + j) % zv.cells.size = j := by rw [hzs, Nat.mul_comm, Nat.mul_add_mod]; exact Nat.mod_eq_of_lt hj
        unfold madeCells
        rw [Array.getElem?_map]
        rw [show (Array.range (cn.toNat * i.size))[q * ti.size + j]? = some (q * ti.size + j) from by simp [hlt]]
        simp only [Option.map_some, hmod]
        rw [← hzc, Array.getElem?_toList] at hc'
        have hjl : j < zv.cells.size := by rw [hzs]; exact hj
        rw [Array.getElem?_eq_getElem hjl] at hc'
        rw [getElem!_pos zv.cells j hjl]; exact hc')
      refine ⟨_, _, S, _, .inl ?_, o1, g1, by simp only [RelT]; exact r1, ids_new⟩
      simp [execOp, ho, int_of hl hli, int_of hc hci, hrun]
  · trivial
/-! Literals. -/
def setV (cs : List Value) : Nat → List Value → List Value
  | _, [] => cs
  | j, x :: r => setV (cs.set j x) (j + 1) r
theorem setV_get : ∀ (vs cs : List Value) (j i : Nat), j + vs.length ≤ cs.length → (setV cs j vs)[i]? = if j ≤ i ∧ i < j + vs.length then vs[i - j]? else cs[i]?
  | [], cs, j, i, _ => by rw [if_neg (by simp)]; rfl
  | x :: r, cs, j, i, h => by
    simp only [List.length_cons] at h
    simp only [setV]
    rw [setV_get r (cs.set j x) (j + 1) i (by simp; omega)]
    by_cases h1 : i = j
    · subst h1
      rw [if_neg (by omega), if_pos (by simp)]
      simp [show i < cs.length from by omega]
    · by_cases h2 : j + 1 ≤ i ∧ i < j + 1 + r.length
      · rw [if_pos h2, if_pos (by simp; omega), show i - j = (i - (j + 1)) + 1 from by omega, List.getElem?_cons_succ]
      · rw [if_neg h2, if_neg (by simp; omega), List.getElem?_set_ne (by omega)]
theorem setV_len : ∀ (vs cs : List Value) (j : Nat), (setV cs j vs).length = cs.length
  | [], cs, j => rfl
  | x :: r, cs, j => by simp only [setV, setV_len r, List.length_set]
theorem fold_setV (off : Nat) : ∀ (vs : List Value) (j : Nat) (cs : Array Value), ((vs.zipIdx j).foldl (fun cs (c, j) => cs.setIfInBounds (off + j) c) cs).toList = setV cs.toList (off + j) vs
  | [], j, cs => rfl
  | x :: r, j, cs => by
    simp only [List.zipIdx_cons, List.foldl_cons, setV]
    rw [fold_setV off r (j + 1) _, Array.toList_setIfInBounds, Nat.add_assoc]
theorem fill_step (place : Nat → Option (Nat × Nat)) (cells : Array Value) (i off size : Nat) (v : Value) (rest : List (Nat × Value)) (hp : place i = some (off, size)) (hs : v.cells.size = size) (hb : off + size ≤ cells.size) :
    Instr.fill place cells ((i, v) :: rest) = Instr.fill place (setV cells.toList off v.cells.toList).toArray rest := by
  have h1 : ¬ ((decide (v.cells.size ≠ size) || decide (off + v.cells.size > cells.size)) = true) := by simp [hs]; omega
  have h2 : v.cells.zipIdx.foldl (fun cs (x : Value × Nat) => cs.setIfInBounds (off + x.2) x.1) cells = (setV cells.toList off v.cells.toList).toArray := by
    rw [← Array.foldl_toList]
    apply Array.ext'
    have := fold_setV off v.cells.toList 0 cells
    rw [Nat.add_zero] at this
    simpa using this
  rw [← h2]
  simp only [Instr.fill, hp]
  rw [if_neg h1]
theorem setCs_rel {cs vs : List CV} {us xs : List Value} {j : Nat} (h : RelCs w S ρ ar cs us) (hv : RelCs w S ρ ar vs xs) (hb : j + vs.length ≤ cs.length) : RelCs w S ρ ar (setCs cs j vs) (setV us j xs) := by
  obtain ⟨h1, h2⟩ := relCs_iff.1 h
  obtain ⟨h3, h4⟩ := relCs_iff.1 hv
  refine relCs_iff.2 ⟨by rw [setV_len, setCs_len, h1], fun i x u hx hu => ?_⟩
  rw [setCs_get vs cs j i hb] at hx
  rw [setV_get xs us j i (by omega), h3] at hu
  by_cases hc : j ≤ i ∧ i < j + vs.length
  · rw [if_pos hc] at hx hu
    exact h4 _ _ _ hx hu
  · rw [if_neg hc] at hx hu
    exact h2 _ _ _ hx hu
theorem fill_ok {fs place : Nat → Option (Nat × Nat)} (hfp : ∀ i p, fs i = some p → place i = some p) : ∀ {ps : List (Nat × TV)} {vs : List (Nat × Value)} {cs cs' : List CV} {cells : Array Value},
    (ps.length = vs.length ∧ ∀ (q : Nat) (x : Nat × TV) (y : Nat × Value), ps[q]? = some x → vs[q]? = some y → x.1 = y.1 ∧ RelT w S ρ ar x.2 y.2) → RelCs w S ρ ar cs cells.toList → fillL fs cs ps = some cs' →
    ∃ cells' : Array Value, Instr.fill place cells vs = some cells' ∧ RelCs w S ρ ar cs' cells'.toList
  | [], [], cs, cs', cells, _, hr, hf => by
    simp only [fillL, Option.some.injEq] at hf
    subst hf
    exact ⟨cells, by simp [Instr.fill], hr⟩
  | [], _ :: _, _, _, _, h, _, _ => by simp at h
  | _ :: _, [], _, _, _, h, _, _ => by simp at h
  | (i, v) :: ps, (i', u) :: vs, cs, cs', cells, h, hr, hf => by
    obtain ⟨e1, hv⟩ := h.2 0 _ _ rfl rfl
    simp only at e1 hv
    subst e1
    simp only [fillL] at hf
    cases hfi : fs i with
    | none => rw [hfi] at hf; cases hf
    | some p =>
      obtain ⟨off, size⟩ := p
      rw [hfi] at hf
      cases hc : cellsOf v with
      | none => rw [hc] at hf; cases hf
      | some l =>
        rw [hc] at hf
        dsimp only at hf
        cases hg : (Nat.beq (lenN l) size && Nat.ble (off + size) (lenN cs)) with
        | false => rw [hg] at hf; cases hf
        | true =>
          rw [hg] at hf
          simp only [Bool.and_eq_true] at hg
          have g1 := Nat.eq_of_beq_eq_true hg.1
          have g2 := Nat.le_of_ble_eq_true hg.2
          rw [lenN_eq] at g1 g2
          have hl := cellsOf_ok hv hc
          have hll := relCs_len hl
          rw [Array.length_toList] at hll
          have hcl := relCs_len hr
          rw [Array.length_toList] at hcl
          rw [fill_step place cells i off size u vs (hfp i _ hfi) (by omega) (by omega)]
          exact fill_ok hfp ⟨by simpa using h.1, fun q x y hx hy => h.2 (q + 1) x y (by simpa using hx) (by simpa using hy)⟩ (by simpa using setCs_rel hr hl (by omega)) hf
theorem evP_ok {e : Nat → TV} {a : Act} (he : ∀ t, RelT w S ρ ar (e t) (a.tmps.getD t undef)) (ps : Array (Nat × Operand)) :
    (evP e ps.toList).length = (ps.map fun (i, x) => (i, a.eval x)).toList.length ∧ ∀ (q : Nat) (x : Nat × TV) (y : Nat × Value), (evP e ps.toList)[q]? = some x → (ps.map fun (i, x) => (i, a.eval x)).toList[q]? = some y → x.1 = y.1 ∧ RelT w S ρ ar x.2 y.2 := by
  refine ⟨by simp [evP], fun q x y hx hy => ?_⟩
  unfold evP at hx
  rw [List.getElem?_map] at hx
  rw [Array.toList_map, List.getElem?_map] at hy
  cases hq : ps.toList[q]? with
  | none => rw [hq] at hx; cases hx
  | some p =>
    rw [hq] at hx hy
    simp only [Option.map_some, Option.some.injEq] at hx hy
    subst hx hy
    exact ⟨rfl, ev_ok he p.2⟩
theorem allT_at {tt : TT} : ∀ {fs : List (Nat × Nat)}, allT tt fs = true → ∀ p ∈ fs, ∃ ti, tt p.2 = some ti
  | [], _, p, hp => by simp at hp
  | (o, t) :: r, h, p, hp => by
    simp only [allT] at h
    cases ht : tt t with
    | none => rw [ht] at h; cases h
    | some ti =>
      rw [ht] at h
      rcases List.mem_cons.1 hp with rfl | hp
      · exact ⟨ti, ht⟩
      · exact allT_at h p hp
theorem places_run (hT : TTok P tt) : ∀ (fields : List Field), (∀ f ∈ fields, ∃ ti, tt f.type = some ti) →
    ∃ l : List (Nat × Nat), (fields.mapM fun f => (do pure (f.offset, ← sizeOf f.type) : Sem (Nat × Nat))).run P w = .ok l w ∧ l.length = fields.length ∧ ∀ (i : Nat) (f : Field) (ti : TI), fields[i]? = some f → tt f.type = some ti → l[i]? = some (f.offset, ti.size)
  | [], _ => ⟨[], by simp, rfl, fun i f ti h => by simp at h⟩
  | f :: fs, h => by
    obtain ⟨ti, hti⟩ := h f List.mem_cons_self
    obtain ⟨l, h1, h2, h3⟩ := places_run hT fs fun g hg => h g (List.mem_cons_of_mem _ hg)
    refine ⟨(f.offset, ti.size) :: l, ?_, by simp [h2], fun i g tg hg htg => ?_⟩
    · simp only [List.mapM_cons, Sem.run_bind, sizeOf_run (hT _ _ hti), Result.andThen_ok, Sem.run_pure, h1]
    · cases i with
      | zero =>
        simp only [List.getElem?_cons_zero, Option.some.injEq] at hg ⊢
        subst hg
        rw [hti] at htg; injection htg with htg; subst htg; rfl
      | succ i => simpa using h3 i g tg (by simpa using hg) htg
theorem build_ok (h : Ok Γ w S ρ ar) (hT : TTok P tt) (t : Nat) (ps : Array (Nat × Operand)) (o : Oper) (a : Act) (ho : o.op = .build t ps) {e : Nat → TV} (he : ∀ t, RelT w S ρ ar (e t) (a.tmps.getD t undef)) :
    OutOk P Γ w S ρ ar nid ((execOp a.eval o).run P w) (doBuild tt ar t (evP e ps.toList)) := by
  unfold doBuild
  split
  · rename_i fs sz by_ z q hti
    cases hall : allT tt fs with
    | false => trivial
    | true =>
      have hA := hT _ _ hti
      obtain ⟨D, hD, fields, rfl, hfs⟩ := hA.desc
      obtain ⟨zv, hz1, hz2⟩ := zero_run hA w
      split
      · rename_i cs hf
        intro _
        have hmem : ∀ f ∈ fields.toList, ∃ ti, tt f.type = some ti := fun f hf => allT_at hall (f.offset, f.type) (by rw [hfs]; exact List.mem_map.2 ⟨f, hf, rfl⟩)
        obtain ⟨l, l1, l2, l3⟩ := places_run (w := w) hT fields.toList hmem
        obtain ⟨cells', c1, c2⟩ := fill_ok (w := w) (S := S) (ρ := ρ) (ar := ar) (place := fun i => l.toArray[i]?) (fun i p hp => by
          cases hn : nth fs i with
          | none => rw [hn] at hp; cases hp
          | some pq =>
            obtain ⟨off, u⟩ := pq
            rw [hn] at hp
            dsimp only at hp
            cases hu : tt u with
            | none => rw [hu] at hp; cases hp
            | some ti =>
              rw [hu] at hp
              simp only [Option.some.injEq] at hp
              subst hp
              rw [nth_eq, hfs, List.getElem?_map] at hn
              cases hg : fields.toList[i]? with
              | none => rw [hg] at hn; cases hn
              | some g =>
                rw [hg] at hn
                simp only [Option.map_some, Option.some.injEq, Prod.mk.injEq] at hn
                obtain ⟨rfl, rfl⟩ := hn
                simpa using l3 i g ti hg hu) (evP_ok he ps) (cells := zv.cells) (by rw [hz2]; exact zeroC_ok hA.cells) hf
        refine Good.same h nid (u := .agg cells') ?_ (by simp only [RelT]; exact ⟨cells'.toList, by simp, c2⟩)
        have hl' : (fields.mapM fun f => (do pure (f.offset, ← sizeOf f.type) : Sem (Nat × Nat))).run P w = .ok l.toArray w := by
          rw [Array.mapM_eq_mapM_toList, Sem.run_map, l1]; rfl
        simp only [execOp, ho, Instr.build, Sem.run_bind, hz1, Result.andThen_ok, run_underlying hD, hl', c1, Sem.run_pure]
      · trivial
  · trivial
end
end Go.Proofs.YtlpcphndgjibpaaDoor.Rx
/- Slices' literals, conversions, and every operation. No program's text. No condition. -/
namespace Go.Proofs.YtlpcphndgjibpaaDoor.Rx
open Go
section
variable {P : Program} {tt : TT} {Γ : Ctx} {w : World} {S : Stab} {ρ : Rho} {ar : Ar} {nid : Nat} {call : CallT} {loop : LoopT}
theorem rows_ok (size : Nat) : ∀ (ps : List (Nat × TV)) (vs : List (Nat × Value)) (k : Nat) (S : Stab) (ar : Ar) (rows : List (List DV)) (ar' : Ar) (cells : Array Value), Ok Γ w S ρ ar →
    (ps.length = vs.length ∧ ∀ (q : Nat) (x : Nat × TV) (y : Nat × Value), ps[q]? = some x → vs[q]? = some y → x.1 = y.1 ∧ RelT w S ρ ar x.2 y.2) → rowsOf ar size k ps = some (rows, ar') → (k + ps.length) * size ≤ cells.size →
    ∃ S' cells', Ok Γ w S' ρ ar' ∧ Goes w S ρ ar w S' ρ ar' ∧ Instr.fill (fun i => some (i * size, size)) cells vs = some cells' ∧ cells'.size = cells.size ∧ (∀ q, q < k * size → cells'[q]? = cells[q]?) ∧ rows.length = ps.length ∧
      ∀ i, i < rows.length → ∀ j, j < size → ∃ c, cells'[(k + i) * size + j]? = some c ∧ RelD w S' (litF nilDV rows i j) c
  | [], vs, k, S, ar, rows, ar', cells, h, hv, hr, hc => by
    simp only [rowsOf, Option.some.injEq, Prod.mk.injEq] at hr
    obtain ⟨rfl, rfl⟩ := hr
    cases vs with
    | cons _ _ => simp at hv
    | nil => exact ⟨S, cells, h, Goes.refl _ _ _ _, by simp [Instr.fill], rfl, fun _ _ => rfl, rfl, fun i hi => by simp at hi⟩
  | (i0, v) :: ps, vs, k, S, ar, rows, ar', cells, h, hv, hr, hc => by
    cases vs with
    | nil => simp at hv
    | cons y vs =>
      obtain ⟨i1, u⟩ := y
      obtain ⟨e1, hvu⟩ := hv.2 0 _ _ rfl rfl
      simp only at e1 hvu
      subst e1
      simp only [rowsOf] at hr
      cases hik : Nat.beq i0 k with
      | false => rw [hik] at hr; cases hr
      | true =>
        have := Nat.eq_of_beq_eq_true hik
        subst this
        rw [hik] at hr
        simp only [cond_true] at hr
        cases hcs : cellsOf v with
        | none => rw [hcs] at hr; cases hr
        | some cs =>
          rw [hcs] at hr
          dsimp only at hr
          cases hsz : Nat.beq (lenN cs) size with
          | false => rw [hsz] at hr; cases hr
          | true =>
            have hsz' := Nat.eq_of_beq_eq_true hsz
            rw [lenN_eq] at hsz'
            rw [hsz] at hr
            simp only [cond_true] at hr
            cases hds : dvsOf ar cs with
            | none => rw [hds] at hr; cases hr
            | some p =>
              obtain ⟨ds, ar1⟩ := p
              rw [hds] at hr
              dsimp only at hr
              cases hro : rowsOf ar1 size (i0 + 1) ps with
              | none => rw [hro] at hr; cases hr
              | some p2 =>
                obtain ⟨l, ar2⟩ := p2
                rw [hro] at hr
                simp only [Option.some.injEq, Prod.mk.injEq] at hr
                obtain ⟨rfl, rfl⟩ := hr
                have hcells := cellsOf_ok hvu hcs
                have hcl := relCs_len hcells
                rw [Array.length_toList] at hcl
                obtain ⟨S1, o1, g1, d1, d2⟩ := dvs_ok h hcells hds
                simp only [List.length_cons] at hc
                have hbd : i0 * size + size ≤ cells.size := by
                  have h1 : (i0 + 1) * size ≤ (i0 + (ps.length + 1)) * size := Nat.mul_le_mul_right _ (by omega)
                  rw [Nat.add_mul, Nat.one_mul] at h1; omega
                have hlen1 : (setV cells.toList (i0 * size) u.cells.toList).toArray.size = cells.size := by simp [setV_len]
                obtain ⟨S2, cells', o2, g2, f1, f2, f3, f4, f5⟩ := rows_ok size ps vs (i0 + 1) S1 ar1 l ar2 (setV cells.toList (i0 * size) u.cells.toList).toArray o1
                  ⟨by simpa using hv.1, fun q x y hx hy => by
                    obtain ⟨m1, m2⟩ := hv.2 (q + 1) x y (by simpa using hx) (by simpa using hy)
                    exact ⟨m1, RelT.goes g1 _ _ m2⟩⟩ hro (by rw [hlen1]; have : (i0 + 1 + ps.length) = i0 + (ps.length + 1) := by omega
                                                             rw [this]; exact hc)
                refine ⟨S2, cells', o2, g1.trans g2, ?_, by rw [f2, hlen1], fun q hq => ?_, by simp [f4], fun i hi j hj => ?_⟩
                · rw [fill_step (fun i => some (i * size, size)) cells i0 (i0 * size) size u vs rfl (by omega) hbd]; exact f1
                · rw [f3 q (by rw [Nat.add_mul]; omega), List.getElem?_toArray, setV_get _ _ _ _ (by simp; omega), if_neg (by omega), Array.getElem?_toList]
                · cases i with
                  | zero =>
                    have hq : (i0 + 0) * size + j < (i0 + 1) * size := by rw [Nat.add_zero, Nat.add_mul]; omega
                    rw [f3 _ hq, List.getElem?_toArray, setV_get _ _ _ _ (by simp; omega), Nat.add_zero, if_pos (by rw [Array.length_toList]; omega), show i0 * size + j - i0 * size = j from by omega]
                    have hj1 : j < u.cells.toList.length := by rw [Array.length_toList]; omega
                    have hj2 : j < ds.length := by rw [← d1]; exact hj1
                    refine ⟨_, List.getElem?_eq_getElem hj1, ?_⟩
                    have := d2 j _ _ (List.getElem?_eq_getElem hj2) (List.getElem?_eq_getElem hj1)
                    simp only [litF, nth, nth_eq, List.getElem?_eq_getElem hj2]
                    exact RelD.mono g2.cells g2.sub _ _ this
                  | succ i =>
                    obtain ⟨c, hc1, hc2⟩ := f5 i (by simpa using hi) j hj
                    refine ⟨c, ?_, ?_⟩
                    · rw [show i0 + (i + 1) = i0 + 1 + i from by omega]; exact hc1
                    · simpa only [litF, nth] using hc2
theorem rowsOf_len (size : Nat) : ∀ (ps : List (Nat × TV)) (k : Nat) (ar : Ar) (rows : List (List DV)) (ar' : Ar), rowsOf ar size k ps = some (rows, ar') → rows.length = ps.length
  | [], k, ar, rows, ar', h => by
    simp only [rowsOf, Option.some.injEq, Prod.mk.injEq] at h
    obtain ⟨rfl, rfl⟩ := h; rfl
  | (i, v) :: ps, k, ar, rows, ar', h => by
    simp only [rowsOf] at h
    cases hik : Nat.beq i k with
    | false => rw [hik] at h; cases h
    | true =>
      rw [hik] at h
      simp only [cond_true] at h
      cases hcs : cellsOf v with
      | none => rw [hcs] at h; cases h
      | some cs =>
        rw [hcs] at h
        dsimp only at h
        cases hsz : Nat.beq (lenN cs) size with
        | false => rw [hsz] at h; cases h
        | true =>
          rw [hsz] at h
          simp only [cond_true] at h
          cases hds : dvsOf ar cs with
          | none => rw [hds] at h; cases h
          | some p =>
            rw [hds] at h
            dsimp only at h
            cases hro : rowsOf p.2 size (k + 1) ps with
            | none => rw [hro] at h; cases h
            | some p2 =>
              rw [hro] at h
              simp only [Option.some.injEq, Prod.mk.injEq] at h
              obtain ⟨rfl, rfl⟩ := h
              simp [rowsOf_len size ps _ _ p2.1 p2.2 hro]
theorem buildSlice_ok (h : Ok Γ w S ρ ar) (hT : TTok P tt) (hfree : ρ nid = .free) (t len : Nat) (ps : Array (Nat × Operand)) (o : Oper) (a : Act) (ho : o.op = .buildSlice t len ps) {e : Nat → TV} (he : ∀ t, RelT w S ρ ar (e t) (a.tmps.getD t undef)) :
    OutOk P Γ w S ρ ar nid ((execOp a.eval o).run P w) (doBuildSlice tt ar nid t len (evP e ps.toList)) := by
  unfold doBuildSlice
  split
  · rename_i el sz by_ z q hti
    cases hte : tt el with
    | none => trivial
    | some ti =>
      dsimp only
      cases hro : rowsOf ar ti.size 0 (evP e ps.toList) with
      | none => trivial
      | some p =>
        obtain ⟨rows, ar'⟩ := p
        dsimp only
        cases hg : (Nat.beq (lenN rows) len && Nat.ble (len * ti.size) 16777216 && Nat.ble len 16777216) with
        | false => trivial
        | true =>
          intro _
          simp only [Bool.and_eq_true] at hg
          have g1 := Nat.eq_of_beq_eq_true hg.1.1
          have g2 := Nat.le_of_ble_eq_true hg.1.2
          have g4 := Nat.le_of_ble_eq_true hg.2
          rw [lenN_eq] at g1
          have hE := hT _ _ hte
          obtain ⟨D, hD, hk⟩ := (hT _ _ hti).desc
          simp only [kindD] at hk; subst hk
          have hzc : ∃ zc : Array Value, (len * ti.size = 0 ∧ zc = #[]) ∨ (len * ti.size ≠ 0 ∧ ∃ zv, (zeroValue el).run P w = .ok zv w ∧ zc = zv.cells) := by
            by_cases h0 : len * ti.size = 0
            · exact ⟨#[], .inl ⟨h0, rfl⟩⟩
            · obtain ⟨zv, hz1, _⟩ := zero_run hE w
              exact ⟨zv.cells, .inr ⟨h0, zv, hz1, rfl⟩⟩
          obtain ⟨zc, hzc⟩ := hzc
          obtain ⟨S1, cells', o1, gg, f1, f2, f3, f4, f5⟩ := rows_ok (w := w) ti.size _ _ 0 S ar rows ar' ((Array.range (len * ti.size)).map (zc[· % zc.size]!)) h (evP_ok he ps) hro (by
            have := rowsOf_len _ _ _ _ _ _ hro
            simp; rw [← this, g1]; exact Nat.le_refl _)
          simp only [Nat.zero_add] at f5
          have hsize : cells'.size = len * ti.size := by rw [f2]; simp
          obtain ⟨o2, g3, r1⟩ := o1.newVec hfree len el ti.size (litF nilDV rows) true false len cells' (0, 0) (fun k hk => heap_alloc_lt w _ k hk) rfl rfl rfl (by simp) (heap_alloc_new w _) (.inl rfl) (fun _ => rfl) (Nat.le_refl _) (by simp only [maxLen]; omega) hsize (fun i hi j hj => f5 i (by omega) j hj)
          refine ⟨_, _, S1, _, .inl ?_, o2, gg.trans g3, by simp only [RelT]; exact r1, ids_new⟩
          have hbig : ¬ (len * ti.size > 2 ^ 24) := by omega
          simp only [execOp, ho, Instr.buildSlice, Sem.run_bind, run_underlying hD, Result.andThen_ok, sizeOf_run hE]
          rw [if_neg hbig]
          rcases hzc with ⟨h0, rfl⟩ | ⟨h0, zv, hz1, rfl⟩
          · rw [if_pos h0]
            simp only [pure_bind, f1, Sem.run_bind, newRow, run_newObj, Result.andThen_ok, Sem.run_pure]
            rfl
          · rw [if_neg h0]
            simp only [Sem.run_bind, hz1, pure_bind, Result.andThen_ok, f1, newRow, run_newObj, Sem.run_pure]
            rfl
  · trivial
theorem slOf_ok (h : Ok Γ w S ρ ar) {x : TV} {u : Value} (hx : RelT w S ρ ar x u) {n : Nat} {q : Option (Nat × (Nat → Nat → DV))} (hs : slOf ar x = some (n, q)) :
    (n = 0 ∧ ∃ A cap, u = .slice A 0 cap) ∨ ∃ k o cap sz f, q = some (sz, f) ∧ u = .slice (some ⟨k, o, none⟩) n cap ∧ ∀ i, i < n → ∀ j, j < sz → ∃ c, w.cell? ⟨k, o + i * sz + j, none⟩ = some c ∧ RelD w S (f i j) c := by
  unfold slOf at hs
  split at hs
  · rename_i b len
    split at hs
    · rename_i L e sz f wr st hb
      simp only [Option.some.injEq, Prod.mk.injEq] at hs
      obtain ⟨rfl, rfl⟩ := hs
      have hB := h.blk b
      unfold RelB at hB
      rw [hb] at hB
      simp only [RelT, RelC, hb] at hx
      obtain ⟨_, hnf, hlL, hx⟩ := hx
      dsimp only at hB
      cases hr : ρ b with
      | free => exact absurd hr hnf
      | virt =>
        rw [hr] at hx
        obtain ⟨rfl, hL⟩ := hx
        have : len = 0 := by omega
        subst this
        exact .inl ⟨rfl, none, 0, rfl⟩
      | «at» k =>
        rw [hr] at hx hB
        obtain ⟨cap, cur, fr, rfl, c1, c2, c3, c4⟩ := hx
        obtain ⟨cap', cur', fr', k1, k2, k3, k4, k5, k6, k7, k8⟩ := hB
        refine .inr ⟨k, 0, cap, sz, f, rfl, rfl, fun i hi j hj => ?_⟩
        obtain ⟨c, hc, hd⟩ := k7 i (by omega) j hj
        exact ⟨c, by rw [Nat.zero_add, cell_of_row w k _ cur' e fr' k1]; exact hc, hd⟩
    · cases hs
  · rename_i len sz f
    simp only [Option.some.injEq, Prod.mk.injEq] at hs
    obtain ⟨rfl, rfl⟩ := hs
    simp only [RelT, RelC, RelD] at hx
    obtain ⟨A, cap, rfl, h2, h3, h4⟩ := hx
    rcases Nat.eq_zero_or_pos len with e | e
    · subst e; exact .inl ⟨rfl, A, cap, rfl⟩
    · obtain ⟨k, o, rfl, h5⟩ := h4 e
      exact .inr ⟨k, o, cap, sz, f, rfl, rfl, fun i hi j hj => (h5 i hi j hj).2⟩
  · simp only [Option.some.injEq, Prod.mk.injEq] at hs
    obtain ⟨rfl, rfl⟩ := hs
    exact .inl ⟨rfl, none, 0, relT_sc hx⟩
  · cases hs
theorem bytes_none {s t e : Nat} (hs : P.underlying s = some (.slice e)) (he : P.underlying e = some (.int .u8)) (hd : P.underlying t = some .string) (A : Option Addr) (cap : Nat) :
    (convert s t (.slice A 0 cap)).run P w = .ok (.string ByteArray.empty) w := by
  rw [run_convert_bytes_string w s t e A 0 cap hs he hd]
  cases A <;> simp [Conv.bytesToString, loadCells, loadCellsFrom]
theorem convert_ok (h : Ok Γ w S ρ ar) (hT : TTok P tt) (hfree : ρ nid = .free) (s t : Nat) (xo : Operand) (o : Oper) (a : Act) (ho : o.op = .convert s t xo) {x : TV} (hx : RelT w S ρ ar x (a.eval xo)) :
    OutOk P Γ w S ρ ar nid ((execOp a.eval o).run P w) (doConvert (std call loop) tt ar nid s t x) := by
  have base : ∀ {u : Value} {w' : World}, (convert s t (a.eval xo)).run P w = .ok u w' → (execOp a.eval o).run P w = .ok (.value u) w' := by
    intro u w' h1
    simp [execOp, ho, h1]
  unfold doConvert
  split
  · rename_i tis k sz by_ z q k0 n hs ht
    intro _
    obtain ⟨D, hD, hk⟩ := (hT _ _ ht).desc
    simp only [kindD] at hk; subst hk
    obtain ⟨Ds, hDs, _⟩ := (hT _ _ hs).desc
    refine Good.same h nid (base (u := .int k (k.wrap n)) ?_) (relT_val rfl)
    rw [relT_sc hx]
    simp [convert, run_underlying hDs, run_underlying hD, Conv.intToInt]
  · rename_i sz by_ z q sz2 by2 z2 q2 str hs ht
    intro _
    obtain ⟨D, hD, hk⟩ := (hT _ _ ht).desc
    simp only [kindD] at hk; subst hk
    obtain ⟨Ds, hDs, hks⟩ := (hT _ _ hs).desc
    simp only [kindD] at hks; subst hks
    refine Good.same h nid (base ?_) (relT_val rfl)
    rw [relT_sc hx]
    simp [convert, run_underlying hDs, run_underlying hD]
  · rename_i e sz by_ z q sz2 by2 z2 q2 hs ht
    obtain ⟨D, hD, hk⟩ := (hT _ _ ht).desc
    simp only [kindD] at hk; subst hk
    obtain ⟨Ds, hDs, hks⟩ := (hT _ _ hs).desc
    simp only [kindD] at hks; subst hks
    split
    · rename_i se be ze qe n f hte hsl
      obtain ⟨De, hDe, hke⟩ := (hT _ _ hte).desc
      simp only [kindD] at hke; subst hke
      intro hp
      have hp' : ∀ i, i < n → ∃ m, f i 0 = .sc (.int .u8 m) := hp
      rcases slOf_ok h hx hsl with ⟨rfl, A, cap, hu⟩ | ⟨k, o', cap, sz', f', hq, hu, hc⟩
      · refine Good.same h nid (base (u := .string ByteArray.empty) ?_) (relT_val rfl)
        rw [hu]; exact bytes_none hDs hDe hD A cap
      · injection hq with hq; injection hq with e1 e2; subst e1 e2
        refine Good.same h nid (base ?_) (relT_val rfl)
        rw [hu]
        refine run_convert_bytes_arg (P := P) w s e hDs hDe k o' n cap ((List.range n).map fun i => iv (f i 0)) (by simp) (fun i hi => ?_) t hD
        obtain ⟨c, hc1, hc2⟩ := hc i hi 0 (by omega)
        obtain ⟨m, hm⟩ := hp' i hi
        rw [Nat.mul_one, Nat.add_zero] at hc1
        rw [hm] at hc2
        unfold RelD at hc2
        rw [hc1, hc2.1, List.getD_eq_getElem?_getD, List.getElem?_map, List.getElem?_range hi]
        simp [hm, iv]
    · rename_i se be ze qe n hte hsl
      obtain ⟨De, hDe, hke⟩ := (hT _ _ hte).desc
      simp only [kindD] at hke; subst hke
      intro _
      rcases slOf_ok h hx hsl with ⟨rfl, A, cap, hu⟩ | ⟨k, o', cap, sz', f', hq, hu, hc⟩
      · refine Good.same h nid (base (u := .string ByteArray.empty) ?_) (relT_val rfl)
        rw [hu]; exact bytes_none hDs hDe hD A cap
      · cases hq
    · trivial
  · rename_i sz by_ z q e sz2 by2 z2 q2 str hs ht
    obtain ⟨D, hD, hk⟩ := (hT _ _ ht).desc
    simp only [kindD] at hk; subst hk
    obtain ⟨Ds, hDs, hks⟩ := (hT _ _ hs).desc
    split
    · rename_i se be ze qe hte
      obtain ⟨De, hDe, hke⟩ := (hT _ _ hte).desc
      simp only [kindD] at hke; subst hke
      intro hp
      have hp' : str.size * 1 ≤ 140737488355328 := hp
      have hrun := Lib.run_convert_string_bytes (P := P) w s t e str hDs hD hDe
      have hge := grownCap_ge w str.size 0 e
      have hcm : grownCap w str.size 0 e ≤ maxLen := grownCap_le_maxLen w _ _ _ (by simp only [maxLen]; omega)
      have hsize : (Lib.bytesCells w e str).size = grownCap w str.size 0 e * 1 := by
        simp only [Lib.bytesCells, Array.size_append, Array.size_map, Array.size_replicate]
        have : str.data.size = str.size := rfl
        omega
      obtain ⟨o1, g1, r1⟩ := h.newVec hfree str.size e 1 (fun i _ => .sc (.int .u8 (byteAt str (i : Int)))) true true (grownCap w str.size 0 e) (Lib.bytesCells w e str) _ (fun k hk => Lib.bytesWorld_at_old w e str k hk) rfl rfl rfl (by rw [Lib.bytesWorld_size]; omega) (Lib.bytesWorld_at_new w e str) (.inr (Nat.le_refl _)) (fun h => by cases h) hge hcm hsize (fun i hi j hj => by
        obtain rfl : j = 0 := by omega
        refine ⟨.int .u8 (byteAt str (i : Int)), ?_, by unfold RelD; exact ⟨rfl, rfl⟩⟩
        have hlt : i < (str.data.map fun b => Value.int .u8 (b.toNat : Int)).size := by rw [Array.size_map]; exact hi
        simp only [Nat.mul_one, Nat.add_zero, Lib.bytesCells]
        rw [Array.getElem?_append_left hlt, Array.getElem?_map, Array.getElem?_eq_getElem (show i < str.data.size from hi)]
        simp only [Option.map_some, byteAt, Int.toNat_natCast, hi, dite_true]
        rfl)
      exact ⟨_, _, S, _, .inl (base (by rw [relT_sc hx]; exact hrun)), o1, g1, by simp only [RelT]; exact r1, ids_new⟩
    · trivial
  · trivial
theorem overF_ok {n : Nat} {g f : Nat → Nat → DV} {i j : Nat} {u : Value} (h : RelD w S (if i < n then g i j else f i j) u) : RelD w S (overF (std call loop) n g f i j) u := by
  refine merge_ok ?_
  by_cases hi : i < n
  · rw [if_pos hi] at h; simpa [std, hi] using h
  · rw [if_neg hi] at h; simpa [std, hi] using h
/-- A block with nothing in it, its data told in other words. -/
theorem Ok.virtF (h : Ok Γ w S ρ ar) {b L e sz : Nat} {f : Nat → Nat → DV} {wr st : Bool} (hv : ρ b = .virt) (hb : ar b = .vec L e sz f wr st) (g : Nat → Nat → DV) :
    Ok Γ w S ρ (setB ar b (.vec L e sz g wr st)) ∧ Goes w S ρ ar w S ρ (setB ar b (.vec L e sz g wr st)) := by
  have hB := h.blk b
  have gg : Goes w S ρ ar w S ρ (setB ar b (.vec L e sz g wr st)) := by
    refine ⟨fun _ _ _ => rfl, fun _ _ h => h, fun _ h => h, fun b' cs' hb' hc => ?_, fun b' L' e' sz' f' wr' st' hb' hc => ?_⟩
    · by_cases hbb : b' = b
      · subst hbb; rw [setB_same] at hc; cases hc
      · rw [setB_other _ _ hbb] at hc; exact ⟨⟨cs', hc⟩, rfl⟩
    · by_cases hbb : b' = b
      · subst hbb; rw [setB_same] at hc
        injection hc with e1 e2 e3 e4 e5 e6
        subst e1 e2 e3 e4 e5 e6
        exact ⟨⟨f, wr, hb⟩, rfl, fun k _ cur fr hk => ⟨cur, fr, hk, rfl⟩⟩
      · rw [setB_other _ _ hbb] at hc; exact ⟨⟨f', wr', hc⟩, rfl, fun k _ cur fr hk => ⟨cur, fr, hk, rfl⟩⟩
  refine ⟨h.step gg rfl rfl rfl (Nat.le_refl _) (fun b' => ?_) h.inj (fun b' k hb' => .inl ⟨b', hb'⟩) (fun _ _ _ => rfl) (fun k o ho => .inl ho) (fun b' hf => ?_), gg⟩
  · by_cases hbb : b' = b
    · subst hbb
      refine .inr ?_
      unfold RelB at hB ⊢
      rw [setB_same]
      rw [hb, hv] at hB
      dsimp only at hB ⊢
      rw [hv]
      exact hB
    · exact .inl ⟨setB_other _ _ hbb, rfl, fun k hk => ⟨rfl, fun o ho => ho⟩⟩
  · by_cases hbb : b' = b
    · subst hbb; rw [hv] at hf; cases hf
    · rw [setB_other _ _ hbb]; exact h.freed b' hf
/-- Cells laid over the front of a slice of ours. -/
theorem over_ok (h : Ok Γ w S ρ ar) {b len L e n : Nat} {f g : Nat → Nat → DV} {st : Bool} {u : Value} (hb : ar b = .vec L e 1 f true st) (hu : RelT w S ρ ar (.c (.own b len)) u) (hle : n ≤ len)
    {news : List Value} (hn : news.length = n) (hd : ∀ i, i < n → ∃ c, news[i]? = some c ∧ RelD w S (g i 0) c) (hc : ∀ v ∈ news, isCell v = true) :
    ∃ A cap w', u = .slice A len cap ∧ ((A = none ∧ len = 0 ∧ w' = w) ∨ ∃ k, A = some ⟨k, 0, none⟩ ∧ (storeCells ⟨k, 0, none⟩ news 0).run P w = .ok () w') ∧
      Ok Γ w' S ρ (setB ar b (.vec L e 1 (overF (std call loop) n g f) true st)) ∧ Goes w S ρ ar w' S ρ (setB ar b (.vec L e 1 (overF (std call loop) n g f) true st)) := by
  have hB := h.blk b
  unfold RelB at hB
  rw [hb] at hB
  dsimp only at hB
  simp only [RelT, RelC, hb] at hu
  obtain ⟨_, hnf, hlL, hu⟩ := hu
  cases hr : ρ b with
  | free => exact absurd hr hnf
  | virt =>
    rw [hr] at hu
    obtain ⟨rfl, hL⟩ := hu
    obtain ⟨o1, g1⟩ := h.virtF hr hb (overF (std call loop) n g f)
    obtain rfl : len = 0 := by omega
    exact ⟨none, 0, w, rfl, .inl ⟨rfl, rfl, rfl⟩, o1, g1⟩
  | «at» k =>
    rw [hr] at hu hB
    obtain ⟨cap, cur, fr, rfl, c1, c2, c3, c4⟩ := hu
    obtain ⟨cap', cur1, fr1, k1, k2, k3, k4, k5, k6, k7, k8⟩ := hB
    rw [c3] at k1; injection k1 with k1; injection k1 with e1 e2 e3
    subst e1 e3
    have hS : ∀ o, ¬ S k o := fun o ho => by have := (k8 o ho).1; cases this
    obtain ⟨cur', r1, r2, r3⟩ := run_cells P k 0 e fr news 0 cur w c3 k2 (by rw [hn]; omega) hc
    obtain ⟨o1, g2⟩ := h.setAt hr c3 r2 hS (.vec L e 1 (overF (std call loop) n g f) true st) (fun _ e => by cases e) (fun _ _ _ _ _ _ he => by injection he with e1 e2 e3 e4 e5 e6; subst e1 e2 e3 e6; exact ⟨f, true, hb⟩) (fun gg => by
      unfold RelB
      rw [setB_same]
      dsimp only
      rw [hr]
      refine ⟨cap', cur', fr, setRow_heap w k cur cur' e fr c3, by rw [r2]; exact k2, k3, k4, k5, by rw [r2]; exact k6, fun a' ha q hq => ?_, fun o ho => absurd ho (hS o)⟩
      have hq0 : q = 0 := by omega
      subst hq0
      have hval : ∃ c, cur'[a' * 1 + 0]? = some c ∧ RelD w S (if a' < n then g a' 0 else f a' 0) c := by
        rw [r3, Nat.add_zero, Nat.mul_one, hn]
        by_cases hc : a' < n
        · rw [if_pos hc, if_pos (by omega)]
          exact hd a' hc
        · rw [if_neg hc, if_neg (by omega)]
          simpa using k7 a' ha 0 (by omega)
      obtain ⟨c, hc, hd⟩ := hval
      exact ⟨c, hc, RelD.mono gg.cells gg.sub _ _ (overF_ok hd)⟩)
    exact ⟨_, cap, _, rfl, .inr ⟨k, rfl, r1⟩, o1, g2⟩
theorem clear_ok (h : Ok Γ w S ρ ar) (hT : TTok P tt) (t : Nat) (ts : Array TypeId) (ht : ts[0]? = some t) (ty : Nat) {x : TV} {xv : Value} (hx : RelT w S ρ ar x xv) {r : Result Next}
    (base : ∀ {v : Value} {w' : World}, (Builtin.clear_ ts ty #[xv]).run P w = .ok v w' → r = .ok (.value v) w') : OutOk P Γ w S ρ ar nid r (doClear (std call loop) tt ar t x) := by
  unfold doClear
  split
  · rename_i e sz0 by0 z0 q0 b len hti
    obtain ⟨D, hD, hk⟩ := (hT _ _ hti).desc
    simp only [kindD] at hk; subst hk
    split
    · rename_i ti L e' sz f st hte hb
      cases hg : (Nat.beq ti.size 1 && Nat.beq sz 1) with
      | false => trivial
      | true =>
        simp only [Bool.and_eq_true] at hg
        have h1 := Nat.eq_of_beq_eq_true hg.1
        have h2 := Nat.eq_of_beq_eq_true hg.2
        subst h2
        intro _
        have hi := hT _ _ hte
        obtain ⟨z, hzv', hzc⟩ := zero_run hi w
        obtain ⟨zv, hzv⟩ : ∃ zv, ti.zero = [zv] := List.length_eq_one_iff.1 (by rw [hi.zlen, h1])
        have hcell := hi.cells zv (by rw [hzv]; simp)
        have hz1 : z.cells = #[zv] := by apply Array.ext'; rw [hzc, hzv]
        obtain ⟨A, cap, w', rfl, hA, o1, g1⟩ := over_ok (P := P) (call := call) (loop := loop) (n := len) (g := zeroF ti.zero) h hb hx (Nat.le_refl _) (news := List.replicate len zv) (by simp) (fun i hi => ⟨zv, by simp [hi], by
          simp only [zeroF, hzv, nth]; exact ⟨rfl, hcell⟩⟩) (fun v hv => by rw [List.eq_of_mem_replicate hv]; exact hcell)
        refine ⟨w', .tuple #[], S, ρ, .inl (base ?_), o1, g1, by unfold RelT; exact ⟨[], rfl, by simp only [RelTs]⟩, fun _ hb => .inl hb⟩
        rcases hA with ⟨rfl, rfl, rfl⟩ | ⟨k, rfl, hrun⟩
        · simp [Builtin.clear_, ht, run_underlying hD]
        · cases len with
          | zero =>
            simp only [List.replicate_zero, storeCells] at hrun
            have hw : w' = w := by simpa using hrun.symm
            subst hw
            simp [Builtin.clear_, ht, run_underlying hD]
          | succ m =>
            have hzs : (Builtin.zeroCells z.cells (m + 1)).toList = List.replicate (m + 1) zv := by
              rw [hz1]
              simp only [Builtin.zeroCells]
              apply List.ext_getElem
              · simp
              · intro i h1 h2; simp [Nat.mod_one]
            simp [Builtin.clear_, ht, run_underlying hD, hzv', hzs, hrun]
    · trivial
  · trivial
theorem copy_ok (h : Ok Γ w S ρ ar) (hT : TTok P tt) (t : Nat) (ts : Array TypeId) (ht : ts[0]? = some t) (ty : Nat) {x y : TV} {xv yv : Value} (hx : RelT w S ρ ar x xv) (hy : RelT w S ρ ar y yv) {r : Result Next}
    (base : ∀ {v : Value} {w' : World}, (Builtin.copy_ ts ty #[xv, yv]).run P w = .ok v w' → r = .ok (.value v) w') : OutOk P Γ w S ρ ar nid r (doCopy (std call loop) tt ar t x y) := by
  unfold doCopy
  split
  · rename_i e sz0 by0 z0 q0 b len hti
    obtain ⟨D, hD, hk⟩ := (hT _ _ hti).desc
    simp only [kindD] at hk; subst hk
    split
    · rename_i ti L e' sz f st hte hb
      cases hg : (Nat.beq ti.size 1 && Nat.beq sz 1) with
      | false => trivial
      | true =>
        simp only [Bool.and_eq_true] at hg
        have h1 := Nat.eq_of_beq_eq_true hg.1
        have h2 := Nat.eq_of_beq_eq_true hg.2
        subst h2
        dsimp only [cond_true]
        split
        · rename_i n g hsrc
          intro hle
          have hle' : n ≤ len := hle
          obtain ⟨news, n1, n2, n3, n4, n5⟩ := src_ok (P := P) h hy hsrc
          obtain ⟨A, cap, w', rfl, hA, o1, g1⟩ := over_ok (P := P) (call := call) (loop := loop) (n := n) (g := g) h hb hx hle' (news := news) (by simpa using n1) (fun i hi => by simpa using n4 i hi 0 (by omega)) n5
          refine ⟨w', .int .i64 (n : Int), S, ρ, .inl (base ?_), o1, g1, relT_val rfl, fun _ hb => .inl hb⟩
          have hmin : Nat.min n len = n := Nat.min_eq_left hle'
          have hso := sizeOf_run (hT _ _ hte) w
          rw [h1] at hso
          rcases hA with ⟨rfl, rfl, rfl⟩ | ⟨k, rfl, hrun⟩
          · obtain rfl : n = 0 := by omega
            simp [Builtin.copy_, ht, run_underlying hD, n2 _, hso, n3 _ rfl, goInt]
          · simp [Builtin.copy_, ht, run_underlying hD, n2 w, hmin, hso, n3 w rfl, hrun, goInt]
        · trivial
    · trivial
  · trivial
end
end Go.Proofs.YtlpcphndgjibpaaDoor.Rx
/- Every operation that the walk knows. No program's text. No condition. -/
namespace Go.Proofs.YtlpcphndgjibpaaDoor.Rx
open Go
section
variable {P : Program} {tt : TT} {Γ : Ctx} {w : World} {S : Stab} {ρ : Rho} {ar : Ar} {nid : Nat} {call : CallT} {loop : LoopT}
theorem relTs_map {e : Nat → TV} {a : Act} (he : ∀ t, RelT w S ρ ar (e t) (a.tmps.getD t undef)) : ∀ (l : List Operand), RelTs w S ρ ar (l.map (evO e)) (l.map a.eval)
  | [] => by simp only [List.map_nil, RelTs]
  | x :: r => by
    simp only [List.map_cons, RelTs]
    exact ⟨ev_ok he x, relTs_map he r⟩
theorem relTs_app : ∀ {xs ys : List TV} {us vs : List Value}, RelTs w S ρ ar xs us → RelTs w S ρ ar ys vs → RelTs w S ρ ar (appN xs ys) (us ++ vs)
  | [], ys, [], vs, _, h => h
  | x :: xs, ys, u :: us, vs, h, h' => by
    simp only [RelTs] at h
    simp only [appN, List.cons_append, RelTs]
    exact ⟨h.1, relTs_app h.2 h'⟩
  | [], _, _ :: _, _, h, _ => by simp [RelTs] at h
  | _ :: _, _, [], _, h, _ => by simp [RelTs] at h
theorem relTs_c : ∀ {xs : List CV} {us : List Value}, RelCs w S ρ ar xs us → RelTs w S ρ ar (xs.map .c) us
  | [], [], _ => by simp only [List.map_nil, RelTs]
  | x :: xs, u :: us, h => by
    simp only [RelCs] at h
    simp only [List.map_cons, RelTs, RelT]
    exact ⟨h.1, relTs_c h.2⟩
  | [], _ :: _, h => by simp [RelCs] at h
  | _ :: _, [], h => by simp [RelCs] at h
theorem caps_ok : ∀ {xs : List TV} {us : List Value} {l : List CV}, RelTs w S ρ ar xs us → capsOf xs = some l → RelCs w S ρ ar l us
  | [], us, l, h, hc => by
    simp only [capsOf, Option.some.injEq] at hc; subst hc
    cases us with
    | nil => simp only [RelCs]
    | cons _ _ => simp [RelTs] at h
  | x :: xs, us, l, h, hc => by
    cases us with
    | nil => simp [RelTs] at h
    | cons u us =>
      simp only [RelTs] at h
      cases x with
      | c v =>
        simp only [capsOf] at hc
        cases hr : capsOf xs with
        | none => rw [hr] at hc; cases hc
        | some r =>
          rw [hr] at hc
          simp only [Option.some.injEq] at hc; subst hc
          simp only [RelCs]
          exact ⟨by simpa only [RelT] using h.1, caps_ok h.2 hr⟩
      | agg _ => simp [capsOf] at hc
      | tup _ => simp [capsOf] at hc
theorem relTs_nth : ∀ {cs : List TV} {vs : List Value} {i : Nat} {x : TV}, RelTs w S ρ ar cs vs → nth cs i = some x → ∃ v, vs[i]? = some v ∧ RelT w S ρ ar x v
  | [], _, _, _, _, h => by simp [nth] at h
  | x :: r, [], _, _, h, _ => by simp [RelTs] at h
  | x :: r, v :: s, 0, y, h, hn => by
    simp only [nth, Option.some.injEq] at hn; subst hn
    simp only [RelTs] at h
    exact ⟨v, rfl, h.1⟩
  | x :: r, v :: s, i + 1, y, h, hn => by
    simp only [RelTs] at h
    simp only [nth] at hn
    obtain ⟨u, h1, h2⟩ := relTs_nth h.2 hn
    exact ⟨u, by simpa using h1, h2⟩
theorem map_one {α β : Type} {f : α → β} {l : List α} {x : β} (h : l.map f = [x]) : ∃ p, l = [p] ∧ f p = x := by
  match l, h with
  | [p], h => simp only [List.map_cons, List.map_nil, List.cons.injEq, and_true] at h; exact ⟨p, rfl, h⟩
theorem map_two {α β : Type} {f : α → β} {l : List α} {x y : β} (h : l.map f = [x, y]) : ∃ p q, l = [p, q] ∧ f p = x ∧ f q = y := by
  match l, h with
  | [p, q], h => simp only [List.map_cons, List.map_nil, List.cons.injEq, and_true] at h; exact ⟨p, q, rfl, h.1, h.2⟩
theorem arr_of {α : Type} {a : Array α} {l : List α} (h : a.toList = l) : a = l.toArray := by rw [← h]
theorem builtin_ok (h : Ok Γ w S ρ ar) (hT : TTok P tt) (hfree : ρ nid = .free) (b : Builtin) (c : Call) (hb : c.callee = .builtin b) (o : Oper) (a : Act) (ho : o.op = .call c) {e : Nat → TV} (he : ∀ t, RelT w S ρ ar (e t) (a.tmps.getD t undef)) :
    OutOk P Γ w S ρ ar nid ((execOp a.eval o).run P w) (doBuiltin (std call loop) tt ar nid b c.argTypes.toList (c.args.toList.map (evO e))) := by
  have hrun : ∃ cs, (execOp a.eval o).run P w = (builtin b c.argTypes o.type cs (c.args.map a.eval)).run P w := by
    simp only [execOp, ho, resolve, hb, Sem.run_bind, Sem.run_pure, Result.andThen_ok, invoke]
    exact ⟨_, rfl⟩
  obtain ⟨cs, hrun⟩ := hrun
  rw [hrun]
  generalize hts : c.argTypes.toList = tl
  generalize hxs : c.args.toList.map (evO e) = xs
  unfold doBuiltin
  split
  · rename_i t ts x
    obtain ⟨p, hp, rfl⟩ := map_one hxs
    rw [arr_of hp]
    refine len_ok h hT t c.argTypes (by rw [← Array.getElem?_toList, hts]; rfl) o.type (ev_ok he p) (fun {u} h1 => ?_)
    simp [builtin, h1]
  · rename_i t u ts x y
    obtain ⟨p, q, hp, rfl, rfl⟩ := map_two hxs
    rw [arr_of hp]
    refine append_ok h hT hfree t u c.argTypes (by rw [← Array.getElem?_toList, hts]; rfl) (by rw [← Array.getElem?_toList, hts]; rfl) o.type (ev_ok he p) (ev_ok he q) (fun {v w'} h1 => ?_)
    simp [builtin, h1]
  · rename_i ts k x k' y
    obtain ⟨p, q, hp, h1, h2⟩ := map_two hxs
    cases hk : kindEq k k' with
    | false => trivial
    | true =>
      obtain rfl := kindEq_eq hk
      intro _
      have e1 := ev_ok he p
      have e2 := ev_ok he q
      rw [h1] at e1; rw [h2] at e2
      rw [arr_of hp]
      refine Good.same h nid (u := .int k (if x < y then y else x)) ?_ (relT_val rfl)
      simp [builtin, Builtin.max_, relT_sc e1, relT_sc e2, Builtin.max2]
  · rename_i ts k x k' y
    obtain ⟨p, q, hp, h1, h2⟩ := map_two hxs
    cases hk : kindEq k k' with
    | false => trivial
    | true =>
      obtain rfl := kindEq_eq hk
      intro _
      have e1 := ev_ok he p
      have e2 := ev_ok he q
      rw [h1] at e1; rw [h2] at e2
      rw [arr_of hp]
      refine Good.same h nid (u := .int k (if y < x then y else x)) ?_ (relT_val rfl)
      simp [builtin, Builtin.min_, relT_sc e1, relT_sc e2, Builtin.min2]
  · rename_i t ts x
    obtain ⟨p, hp, rfl⟩ := map_one hxs
    rw [arr_of hp]
    refine clear_ok h hT t c.argTypes (by rw [← Array.getElem?_toList, hts]; rfl) o.type (ev_ok he p) (fun {v w'} h1 => ?_)
    simp [builtin, h1]
  · rename_i t ts x y
    obtain ⟨p, q, hp, rfl, rfl⟩ := map_two hxs
    rw [arr_of hp]
    refine copy_ok h hT t c.argTypes (by rw [← Array.getElem?_toList, hts]; rfl) o.type (ev_ok he p) (ev_ok he q) (fun {v w'} h1 => ?_)
    simp [builtin, h1]
  · trivial
theorem call_run (h : Ok Γ w S ρ ar) (f : Operand) (c : Call) (hc : c.callee = .value f) (o : Oper) (a : Act) (ho : o.op = .call c) {e : Nat → TV} (he : ∀ t, RelT w S ρ ar (e t) (a.tmps.getD t undef)) :
    OutOk P Γ w S ρ ar nid ((execOp a.eval o).run P w) (callOf ar (evO e f) (c.args.toList.map (evO e))) := by
  have hf := ev_ok he f
  unfold callOf
  split
  · rename_i x g caps hx
    rw [hx] at hf
    simp only [RelT, RelC] at hf
    obtain ⟨vs, hv, hcs⟩ := hf
    refine ⟨c.args.toList.map a.eval ++ vs, relTs_app (relTs_map he _) (relTs_c hcs), fun fn hfn hbody hname => ?_⟩
    have hnb : ¬ fn.body = none := by cases hb : fn.body <;> simp_all
    have hn' : ¬ fn.name = "runtime.NumGoroutine" := by simpa using hname
    have harr : c.args.map a.eval ++ vs.toArray = (c.args.toList.map a.eval ++ vs).toArray := by
      apply Array.ext'; simp
    simp [execOp, ho, resolve, hc, hv, Deferred.ofValue, invoke, callFunc, hfn, hn', hnb, harr]
  · trivial
/-- Every operation. -/
theorem doOp_ok (h : Ok Γ w S ρ ar) (hT : TTok P tt) (hfree : ρ nid = .free) (o : Oper) (a : Act) {e : Nat → TV} (he : ∀ t, RelT w S ρ ar (e t) (a.tmps.getD t undef)) :
    OutOk P Γ w S ρ ar nid ((execOp a.eval o).run P w) (doOp (std call loop) tt e ar nid o.op) := by
  cases ho : o.op with
  | move x =>
    intro _
    exact Good.same h nid (by simp [execOp, ho]) (ev_ok he x)
  | assign x =>
    intro _
    exact Good.same h nid (by simp [execOp, ho]) (ev_ok he x)
  | pick c x y =>
    simp only [doOp]
    cases hb : boolOf (evO e c) with
    | none => trivial
    | some t =>
      have hc := ev_ok he c
      unfold boolOf at hb
      split at hb
      · rename_i b hcb
        simp only [Option.some.injEq] at hb; subst hb
        rw [hcb] at hc
        have := relT_sc hc
        cases b with
        | true => exact ⟨a.eval x, by simp [execOp, ho, this, asBool], ev_ok he x⟩
        | false => exact ⟨a.eval y, by simp [execOp, ho, this, asBool], ev_ok he y⟩
      · cases hb
  | alloc t => exact alloc_ok h hT hfree t o a ho
  | box t v => exact box_ok h hfree t v o a ho (ev_ok he v)
  | build t ps => exact build_ok h hT t ps o a ho he
  | buildSlice t n ps => exact buildSlice_ok h hT hfree t n ps o a ho he
  | load t x => exact load_ok h hT t x o a ho (ev_ok he x)
  | store t x v => exact store_ok h hT t x v o a ho (ev_ok he x) (ev_ok he v)
  | nilCheck x =>
    have hx := ev_ok he x
    simp only [doOp]
    unfold doNil
    split
    · rename_i b j hxe
      rw [hxe] at hx
      have hx' := hx
      simp only [RelT, RelC] at hx
      split
      · rename_i cs hb
        intro _
        rw [hb] at hx
        obtain ⟨_, _, k, _, hu⟩ := hx
        exact Good.same h nid (u := a.eval x) (by rw [hu]; simp [execOp, ho, hu]) hx'
      · trivial
    · rename_i b i j hxe
      rw [hxe] at hx
      have hx' := hx
      simp only [RelT, RelC] at hx
      split
      · rename_i L el sz f wr st hb
        intro _
        rw [hb] at hx
        obtain ⟨_, _, k, _, hu, _⟩ := hx
        exact Good.same h nid (u := a.eval x) (by rw [hu]; simp [execOp, ho, hu]) hx'
      · trivial
    · rename_i n f hxe
      rw [hxe] at hx
      have hx' := hx
      simp only [RelT, RelC] at hx
      obtain ⟨k, j, hu, _⟩ := hx
      intro _
      exact Good.same h nid (u := a.eval x) (by rw [hu]; simp [execOp, ho, hu]) hx'
    · rename_i f cs hxe
      rw [hxe] at hx
      have hx' := hx
      simp only [RelT, RelC] at hx
      obtain ⟨vs, hu, _⟩ := hx
      intro _
      exact Good.same h nid (u := a.eval x) (by rw [hu]; simp [execOp, ho, hu]) hx'
    · trivial
  | binOp op t x y yt => exact bin_ok h hT op t yt x y o a ho (ev_ok he x) (ev_ok he y)
  | unOp op t x => exact un_ok h op t x o a ho (ev_ok he x)
  | convert s t x => exact convert_ok h hT hfree s t x o a ho (ev_ok he x)
  | makeFunc fn first caps =>
    cases fn with
    | func f =>
      simp only [doOp]
      split
      · rename_i hfi
        split
        · rename_i l hl
          intro _
          have hcs := caps_ok (relTs_map he caps.toList) hl
          refine Good.same h nid (u := .func (.func f) #[] (caps.toList.map a.eval).toArray) ?_ (by simp only [RelT, RelC]; exact ⟨_, rfl, hcs⟩)
          have harr : caps.map a.eval = (caps.toList.map a.eval).toArray := by apply Array.ext'; simp
          simp [execOp, ho, Instr.makeFunc, arr_of hfi, harr]
        · trivial
      · trivial
    | _ => trivial
  | makeSlice t l c => exact make_ok h hT hfree t l c o a ho (ev_ok he l) (ev_ok he c)
  | slice t x lo hi mx => exact slice_ok h hT t x lo hi mx o a e he ho
  | fieldAddr t x f => exact fieldAddr_ok h hT t f x o a ho (ev_ok he x)
  | field t x f => exact field_ok h hT t f x o a ho (ev_ok he x)
  | indexAddr t x i => exact indexAddr_ok h hT t x i o a ho (ev_ok he x) (ev_ok he i)
  | index t x i => exact index_ok h hT t x i o a ho (ev_ok he x) (ev_ok he i)
  | extract t i =>
    have hx := ev_ok he t
    simp only [doOp]
    unfold doExtract
    split
    · rename_i vs hxe
      rw [hxe] at hx
      simp only [RelT] at hx
      obtain ⟨us, hu, hr⟩ := hx
      cases hn : nth vs i with
      | none => trivial
      | some v =>
        intro _
        obtain ⟨u, h1, h2⟩ := relTs_nth hr hn
        exact Good.same h nid (by simp [execOp, ho, hu, Instr.extract, h1]) h2
    · trivial
  | call c =>
    simp only [doOp]
    cases hc : c.callee with
    | value f => exact call_run h f c hc o a ho he
    | invoke r m => trivial
    | builtin b => exact builtin_ok h hT hfree b c hc o a ho he
  | _ => trivial
end
end Go.Proofs.YtlpcphndgjibpaaDoor.Rx
/- One operation of a region, with its guard: what the abstract step says of the machine's. No program's text. No condition. -/
namespace Go.Proofs.YtlpcphndgjibpaaDoor.Rx
open Go
/-- A frame and a world as the abstract state tells them. -/
structure RelS (Γ : Ctx) (w : World) (S : Stab) (ρ : Rho) (st : St) (a : Act) : Prop where
  ok : Ok Γ w S ρ st.ar
  env : ∀ t, RelT w S ρ st.ar (st.env t) (a.tmps.getD t undef)
  nt : a.tmps.size = st.nt
  defers : a.defers = []
  np : ∀ b, Γ.ρ0 b ≠ .free → b < st.np
/-- What a call must come to, for each way to tell it. -/
def CallOk (P : Program) (N : Nat) (G : World → Prop) (call : CallT) : Prop :=
  ∀ (f : FuncId) (args : List TV) (st : St) (K : TV → St → Prop), call f args st K → ∀ (Γ : Ctx) (w : World) (S : Stab) (ρ : Rho) (a : Act) (vs : List Value), (Γ.N = N ∧ Γ.G = G) → RelS Γ w S ρ st a → RelTs w S ρ st.ar args vs →
    (∀ b, st.nb ≤ b → b < st.nb + 8 → ρ b = .free) →
    (∃ fn, P.funcs[f]? = some fn ∧ fn.body.isSome = true ∧ (fn.name == "runtime.NumGoroutine") = false) ∧
    Calls P f vs.toArray w fun e w' => ∃ v res st' S' ρ', e = .returned v ∧ RelS Γ w' S' ρ' st' a ∧ RelT w' S' ρ' st'.ar res v ∧ K res st' ∧
      (∀ b, ρ' b ≠ .free → ρ b ≠ .free ∨ (st.nb ≤ b ∧ b < st.nb + 8))
theorem put_same (e : Nat → TV) (k : Nat) (v : TV) : put e k v k = v := by simp [put, lam]
theorem put_other (e : Nat → TV) {k t : Nat} (v : TV) (h : t ≠ k) : put e k v t = e t := by
  have : Nat.beq t k = false := by cases hb : Nat.beq t k with | false => rfl | true => exact absurd (Nat.eq_of_beq_eq_true hb) h
  simp [put, lam, this]
theorem put_id {e : Nat → TV} {k : Nat} {v : TV} (h : e k = v) : put e k v = e := by
  funext t
  by_cases ht : t = k
  · subst ht; rw [put_same, h]
  · rw [put_other _ _ ht]
section
variable {P : Program} {tt : TT} {Γ : Ctx} {w : World} {S : Stab} {ρ : Rho} {ar : Ar} {call : CallT} {loop : LoopT} {st : St} {a : Act} {N : Nat} {G : World → Prop}
/-- A result is laid down. -/
theorem RelS.put (h : RelS Γ w S ρ st a) {dst : Option Tmp} (hd : okDst st.nt dst = true) {v : TV} {u : Value} {w' : World} {S' : Stab} {ρ' : Rho} {ar' : Ar} (ho : Ok Γ w' S' ρ' ar') (g : Goes w S ρ st.ar w' S' ρ' ar') (hv : RelT w' S' ρ' ar' v u) :
    RelS Γ w' S' ρ' { st with env := putD st.env dst v, ar := ar' } (a.put dst u) := by
  cases dst with
  | none =>
    exact ⟨ho, fun t => RelT.goes g _ _ (h.env t), h.nt, h.defers, h.np⟩
  | some d =>
    have hd' : d < a.tmps.size := by rw [h.nt]; simp only [okDst] at hd; simpa using hd
    refine ⟨ho, fun t => ?_, by simp [Act.put, h.nt], h.defers, h.np⟩
    simp only [putD, Act.put]
    by_cases ht : t = d
    · subst ht
      rw [put_same]
      simp [hd']
      exact hv
    · rw [put_other _ _ ht]
      have := RelT.goes g _ _ (h.env t)
      simpa [Array.getElem?_setIfInBounds_ne (Ne.symm ht)] using this
def putOnly (st : St) (dst : Option Nat) (v : TV) : St := { st with env := putD st.env dst v }
theorem bool_of {t : Bool} {u : Value} (h : RelT w S ρ ar (.c (.d (.sc (.bool t)))) u) : u = .bool t := relT_sc h
/-- One operation, with its guard. -/
theorem doOper_ok (hc : CallOk P N G call) (hNG : Γ.N = N ∧ Γ.G = G) (hT : TTok P tt) (ops : Array Oper) (i : Nat) (o : Oper) (ho : ops[i]? = some o) (h : RelS Γ w S ρ st a) (hfree : ∀ b, st.nb + 8 * i ≤ b → b < st.nb + 8 * i + 8 → ρ b = .free)
    {K : St → Prop} (hd : doOper (std call loop) tt ops.toList i o st K) {Q : Exit → Act → World → Prop} {next : Act → World → Prop}
    (hn : ∀ st' w' S' ρ' a', K st' → st'.nb = st.nb → RelS Γ w' S' ρ' st' a' → (∀ b, ρ' b ≠ .free → ρ b ≠ .free ∨ (st.nb + 8 * i ≤ b ∧ b < st.nb + 8 * i + 8)) → next a' w') :
    wpOp P ops Q i next a w := by
  unfold wpOp
  rw [ho]
  dsimp only
  unfold doOper at hd
  cases hok : okDst st.nt o.dst with
  | false => rw [hok] at hd; exact hd.elim
  | true =>
    rw [hok] at hd
    simp only [cond_true] at hd
    -- the operation itself
    have run : runOp (std call loop) tt i o st K st.env → o.wp P a w next Q ∨ (o.asks P a w ∧ LetsOut Q) := by
      intro hr
      unfold runOp at hr
      refine .inl ?_
      have hop := doOp_ok (P := P) (call := call) (loop := loop) h.ok hT (hfree _ (Nat.le_refl _) (by omega)) o a h.env
      cases hout : doOp (std call loop) tt st.env st.ar (st.nb + 8 * i) o.op with
      | bad => rw [hout] at hr; exact hr.elim
      | one pre v ar' =>
        rw [hout] at hr hop
        obtain ⟨hp, hk⟩ := hr
        obtain ⟨w', u, S', ρ', hrun, ok', g, hv, hids⟩ := hop hp
        unfold Oper.wp
        rcases hrun with hrun | ⟨hrun, rfl⟩
        · rw [hrun]; exact hn _ _ S' ρ' _ hk rfl (h.put hok ok' g hv) hids
        · rw [hrun]; exact hn _ _ S' ρ' _ hk rfl (h.put hok ok' g hv) hids
      | pick t x y =>
        rw [hout] at hr hop
        obtain ⟨u, hrun, hv⟩ := hop
        unfold Oper.wp
        rw [hrun]
        have := h.put hok h.ok (Goes.refl _ _ _ _) hv
        cases t with
        | true => exact hn _ _ S ρ _ hr rfl this (fun b hb => .inl hb)
        | false => exact hn _ _ S ρ _ hr rfl this (fun b hb => .inl hb)
      | call f args =>
        rw [hout] at hr hop
        obtain ⟨vs, hvs, hrun⟩ := hop
        have h1 : RelS Γ w S ρ { st with nb := st.nb + 8 * i } a := ⟨h.ok, h.env, h.nt, h.defers, h.np⟩
        obtain ⟨⟨fn, f1, f2, f3⟩, hcall⟩ := hc f args _ _ hr Γ w S ρ a vs hNG h1 hvs hfree
        unfold Oper.wp
        rw [hrun fn f1 f2 f3]
        refine Calls.mono hcall ?_
        rintro e w' ⟨v, res, st', S', ρ', rfl, hrel, hres, hk, hids⟩
        have hok' : okDst st'.nt o.dst = true := by rw [← hrel.nt, h.nt]; exact hok
        have hput := hrel.put hok' hrel.ok (Goes.refl _ _ _ _) hres
        exact hn _ _ S' ρ' _ hk rfl ⟨hput.ok, hput.env, hput.nt, hput.defers, hput.np⟩ hids
    cases hg : o.guard with
    | none =>
      rw [hg] at hd
      have hw : Region.wanted o (yielded ops a.tmps) = true := by simp [Region.wanted, hg]
      rw [if_pos hw]
      exact run hd
    | some p =>
      obtain ⟨j, want⟩ := p
      rw [hg] at hd
      dsimp only at hd
      rw [nth_eq, Array.getElem?_toList] at hd
      cases hj : ops[j]? with
      | none => rw [hj] at hd; exact hd.elim
      | some g =>
        rw [hj] at hd
        dsimp only at hd
        cases hgd : g.dst with
        | none => rw [hgd] at hd; exact hd.elim
        | some d =>
          rw [hgd] at hd
          dsimp only at hd
          have hev := h.env d
          split at hd
          · rename_i t htd
            rw [htd] at hev
            have hval := bool_of hev
            have hy : yielded ops a.tmps j = some t := by
              have hin : a.tmps[d]? = some (.bool t) := by
                cases hx : a.tmps[d]? with
                | none =>
                  rw [Array.getD_eq_getD_getElem?, hx] at hval
                  cases hval
                | some v =>
                  rw [Array.getD_eq_getD_getElem?, hx] at hval
                  simp only [Option.getD_some] at hval
                  rw [hval]
              simp [yielded, hj, hgd, hin]
            have hskip : K { st with env := putD st.env o.dst undefV } → next (a.put o.dst undef) w := fun hk =>
              hn _ _ S ρ _ hk rfl (h.put hok h.ok (Goes.refl _ _ _ _) relT_undef) (fun b hb => .inl hb)
            have hpid : ∀ b, t = b → Rx.put st.env d (val (.bool b)) = st.env := fun b hb => put_id (by rw [htd, hb]; rfl)
            cases t with
            | true =>
              cases want with
              | true =>
                have hw : Region.wanted o (yielded ops a.tmps) = true := by simp [Region.wanted, hg, hy]
                rw [if_pos hw]
                dsimp only [cond_true] at hd
                rw [hpid true rfl] at hd
                exact run hd
              | false =>
                have hw : ¬ Region.wanted o (yielded ops a.tmps) = true := by simp [Region.wanted, hg, hy]
                rw [if_neg hw]
                dsimp only [cond_false] at hd
                rw [hpid true rfl] at hd
                exact hskip hd
            | false =>
              cases want with
              | true =>
                have hw : ¬ Region.wanted o (yielded ops a.tmps) = true := by simp [Region.wanted, hg, hy]
                rw [if_neg hw]
                dsimp only [cond_true] at hd
                rw [hpid false rfl] at hd
                exact hskip hd
              | false =>
                have hw : Region.wanted o (yielded ops a.tmps) = true := by simp [Region.wanted, hg, hy]
                rw [if_pos hw]
                dsimp only [cond_false] at hd
                rw [hpid false rfl] at hd
                exact run hd
          · exact hd.elim
/-- A region in the order of its text. -/
theorem doOpers_ok (hc : CallOk P N G call) (hNG : Γ.N = N ∧ Γ.G = G) (hT : TTok P tt) (ops : Array Oper) {K : St → Prop} {Q : Exit → Act → World → Prop} {nb : Nat}
    (hQ : ∀ st' w' S' ρ' a', K st' → RelS Γ w' S' ρ' st' a' → (∀ b, ρ' b ≠ .free → b < st'.nb) → Q .normal a' w') :
    ∀ (l : List Oper) (i : Nat) (st : St) (w : World) (S : Stab) (ρ : Rho) (a : Act), (∀ j, l[j]? = ops[i + j]?) → i + l.length = ops.size → st.nb = nb → RelS Γ w S ρ st a → (∀ b, ρ b ≠ .free → b < nb + 8 * i) →
      doOpers (std call loop) tt ops.toList i l st K → wpOps P ops Q (List.range' i l.length) a w
  | [], i, st, w, S, ρ, a, hl, hsz, hnb, h, hid, hd => by
    simp only [List.length_nil, List.range'_zero, wpOps]
    simp only [doOpers] at hd
    refine hQ _ w S ρ a hd ⟨h.ok, h.env, h.nt, h.defers, h.np⟩ (fun b hb => ?_)
    have := hid b hb
    simp only [lenN_eq, Array.length_toList, List.length_nil, hnb] at hsz ⊢
    omega
  | o :: l, i, st, w, S, ρ, a, hl, hsz, hnb, h, hid, hd => by
    simp only [List.length_cons, List.range'_succ]
    rw [wpOps_cons]
    simp only [doOpers] at hd
    have ho : ops[i]? = some o := by have := hl 0; simpa using this.symm
    refine doOper_ok hc hNG hT ops i o ho h (fun b h1 h2 => ?_) hd (fun st' w' S' ρ' a' hk hnb' hr hids => ?_)
    · cases hs : ρ b with
      | free => rfl
      | virt => have := hid b (by rw [hs]; intro e; cases e); omega
      | «at» k => have := hid b (by rw [hs]; intro e; cases e); omega
    · refine doOpers_ok hc hNG hT ops hQ l (i + 1) st' w' S' ρ' a' (fun j => ?_) (by simp only [List.length_cons] at hsz; omega) (hnb'.trans hnb) hr (fun b hb => ?_) hk
      · have := hl (j + 1)
        rw [List.getElem?_cons_succ] at this
        rw [this]; congr 1; omega
      · rcases hids b hb with h1 | ⟨_, h2⟩
        · have := hid b h1; omega
        · rw [hnb] at h2; omega
end
end Go.Proofs.YtlpcphndgjibpaaDoor.Rx
/- Code: what the abstract walk says of the machine's. No program's text. No condition. -/
namespace Go.Proofs.YtlpcphndgjibpaaDoor.Rx
open Go
def ExR : Exit → Ex → Prop
  | .normal, .normal => True
  | .exit i, .exit j => i = j
  | .ret, .ret => True
  | _, _ => False
def Ids (ρ : Rho) (n : Nat) : Prop := ∀ b, ρ b ≠ .free → b < n
/-- One state tells no less than another. -/
def Sub (s s' : St) : Prop := s'.nt = s.nt ∧ ∀ (Γ : Ctx) (w : World) (S : Stab) (ρ : Rho) (a : Act), RelS Γ w S ρ s a → Ids ρ s.nb → ∃ S' ρ', RelS Γ w S' ρ' s' a ∧ Ids ρ' s'.nb
theorem Sub.refl (s : St) : Sub s s := ⟨rfl, fun _ _ S ρ _ h hi => ⟨S, ρ, h, hi⟩⟩
theorem Sub.trans {a b c : St} (h : Sub a b) (k : Sub b c) : Sub a c :=
  ⟨k.1.trans h.1, fun Γ w S ρ x h1 h2 => let ⟨S1, ρ1, h3, h4⟩ := h.2 Γ w S ρ x h1 h2; k.2 Γ w S1 ρ1 x h3 h4⟩
/-- A loop: the least that is closed under rounds. -/
def loopP : LoopT := fun body st K => ∀ X : St → Prop, (∀ s, body s (fun e s' => match e with
    | .normal => ∃ s'', Sub s' s'' ∧ X s''
    | .exit id => K (.exit id) s'
    | .ret => K .ret s') → X s) → ∃ s', Sub st s' ∧ X s'
def Post (Γ : Ctx) (K : Ex → St → Prop) (e : Exit) (a : Act) (w : World) : Prop := ∃ e' st S ρ, ExR e e' ∧ RelS Γ w S ρ st a ∧ Ids ρ st.nb ∧ K e' st
section
variable {P : Program} {tt : TT} {Γ : Ctx} {call : CallT} {N : Nat} {G : World → Prop}
/-- From a loop's round on. -/
def LG (P : Program) (c : Code) (Q : Exit → Act → World → Prop) (a : Act) (w : World) : Prop :=
  ∀ (b : Frame) (k : List Item) (cs : List Frame), ∃ e a' w', Q e a' w' ∧ Arrives P (lone (b.at a (.code c :: .inLoop c :: k)) cs w) b k cs e a' w'
theorem wp_loop_of {c : Code} {Q : Exit → Act → World → Prop} {a : Act} {w : World} (h : LG P c Q a w) : (Code.loop c).wp P Q a w :=
  fun b k cs => let ⟨e, a', w', q, r⟩ := h b k cs; ⟨e, a', w', q, .of_steps (.one step_loop) r⟩
theorem LG_step {c : Code} {Q : Exit → Act → World → Prop} {a : Act} {w : World} (h : c.wp P (Exit.then (LG P c Q) Q) a w) : LG P c Q a w := by
  intro b k cs
  obtain ⟨e, a₁, w₁, hq, harr⟩ := h b (.inLoop c :: k) cs
  cases e with
  | normal =>
    obtain ⟨e₂, a₂, w₂, hq₂, harr₂⟩ := hq b k cs
    exact ⟨e₂, a₂, w₂, hq₂, .of_steps (Steps.trans harr (.one step_inLoop)) harr₂⟩
  | exit id => exact ⟨_, a₁, w₁, hq, .pass (x := .inLoop c) rfl (fun _ _ => .inl (by simp)) harr⟩
  | goto l => exact ⟨_, a₁, w₁, hq, .pass (x := .inLoop c) rfl (fun _ _ => .inl (by simp)) harr⟩
  | ret => exact ⟨_, a₁, w₁, hq, .pass (x := .inLoop c) rfl (fun _ _ => .inl (by simp)) harr⟩
  | panic ch => exact ⟨_, a₁, w₁, hq, .pass (x := .inLoop c) rfl (fun _ _ => .inl (by simp)) harr⟩
  | outgrown => exact ⟨_, a₁, w₁, hq, .pass (x := .inLoop c) rfl (fun _ _ => .inl (by simp)) harr⟩
def Drawn (P : Program) (N : Nat) (G : World → Prop) (tt : TT) (mv : List Nat) (call : CallT) : Prop :=
  ∀ (Γ : Ctx), (Γ.N = N ∧ Γ.G = G) → ∀ (id : Nat) (ops : Array Oper) (st : St) (K : St → Prop), doDrawn (std call loopP) tt mv ops st K → ∀ (w : World) (S : Stab) (ρ : Rho) (a : Act), RelS Γ w S ρ st a → Ids ρ st.nb →
    (Code.region id ops true).wp P (Post Γ fun e s => e = .normal ∧ K s) a w
theorem exec_ok (hc : CallOk P N G call) (hNG : Γ.N = N ∧ Γ.G = G) (hT : TTok P tt) {mv : List Nat} (hD : Drawn P N G tt mv call) : ∀ (c : Code) (K : Ex → St → Prop) (st : St), exec (std call loopP) tt mv c st K →
    ∀ (w : World) (S : Stab) (ρ : Rho) (a : Act), RelS Γ w S ρ st a → Ids ρ st.nb → c.wp P (Post Γ K) a w := by
  intro c
  induction c with
  | skip => exact fun K st h w S ρ a hr hi => wp_skip ⟨.normal, st, S, ρ, trivial, hr, hi, h⟩
  | label l => exact fun K st h w S ρ a hr hi => wp_label ⟨.normal, st, S, ρ, trivial, hr, hi, h⟩
  | ret => exact fun K st h w S ρ a hr hi => wp_ret ⟨.ret, st, S, ρ, trivial, hr, hi, h⟩
  | exit id => exact fun K st h w S ρ a hr hi => wp_exit ⟨.exit id, st, S, ρ, rfl, hr, hi, h⟩
  | region id ops draw =>
    intro K st h w S ρ a hr hi
    cases draw with
    | false =>
      refine wp_region ?_
      have := doOpers_ok (P := P) (Γ := Γ) hc hNG hT ops (K := fun s => K .normal s) (Q := Post Γ K) (nb := st.nb) (fun st' w' S' ρ' a' hk hr' hi' => ⟨.normal, st', S', ρ', trivial, hr', hi', hk⟩) ops.toList 0 st w S ρ a (fun j => by simp) (by simp) rfl hr (fun b hb => by have := hi b hb; omega) h
      rw [List.range_eq_range']
      simpa using this
    | true =>
      refine wp_mono (hD Γ hNG id ops st _ h w S ρ a hr hi) ?_
      rintro e a' w' ⟨e', st', S', ρ', h1, h2, h3, rfl, h4⟩
      exact ⟨_, st', S', ρ', h1, h2, h3, h4⟩
  | seq x y ihx ihy =>
    intro K st h w S ρ a hr hi
    refine wp_seq (wp_mono (ihx _ st h w S ρ a hr hi) ?_)
    rintro e a' w' ⟨e', st', S', ρ', h1, h2, h3, h4⟩
    cases e with
    | normal =>
      cases e' with
      | normal => exact ihy _ st' h4 w' S' ρ' a' h2 h3
      | exit i => exact h1.elim
      | ret => exact h1.elim
    | exit i =>
      cases e' with
      | exit j => exact ⟨_, st', S', ρ', h1, h2, h3, h4⟩
      | normal => exact h1.elim
      | ret => exact h1.elim
    | ret =>
      cases e' with
      | ret => exact ⟨_, st', S', ρ', h1, h2, h3, h4⟩
      | normal => exact h1.elim
      | exit i => exact h1.elim
    | goto l => exact h1.elim
    | panic ch => exact h1.elim
    | outgrown => exact h1.elim
  | cond c x y ihx ihy =>
    intro K st h w S ρ a hr hi
    have hev := ev_ok hr.env c
    simp only [exec] at h
    split at h
    · rename_i t ht
      rw [ht] at hev
      have hval := bool_of hev
      have hput : ∀ b, t = b → condSt st c b = st := by
        intro b hb
        cases c with
        | tmp k =>
          have : put st.env k (val (.bool b)) = st.env := put_id (by
            have : st.env k = .c (.d (.sc (.bool t))) := ht
            rw [this, hb]; rfl)
          simp only [condSt, this]
        | _ => rfl
      cases t with
      | true =>
        dsimp only at h
        rw [hput true rfl] at h
        exact wp_cond_true hval (ihx _ st h w S ρ a hr hi)
      | false =>
        dsimp only at h
        rw [hput false rfl] at h
        exact wp_cond_false hval (ihy _ st h w S ρ a hr hi)
    · exact h.elim
  | block id c ih =>
    intro K st h w S ρ a hr hi
    refine wp_block (wp_mono (ih _ st h w S ρ a hr hi) ?_)
    rintro e a' w' ⟨e', st', S', ρ', h1, h2, h3, h4⟩
    cases e with
    | normal =>
      cases e' with
      | normal => exact ⟨_, st', S', ρ', h1, h2, h3, h4⟩
      | exit i => exact h1.elim
      | ret => exact h1.elim
    | exit i =>
      cases e' with
      | exit j =>
        have hij : i = j := h1
        subst hij
        simp only [Exit.inBlock]
        by_cases hb : i = id
        · rw [if_pos hb]
          dsimp only at h4
          have : Nat.beq i id = true := by rw [hb]; exact Nat.beq_refl id
          rw [this] at h4
          exact ⟨.normal, st', S', ρ', trivial, h2, h3, h4⟩
        · rw [if_neg hb]
          dsimp only at h4
          have : Nat.beq i id = false := by cases hx : Nat.beq i id with | false => rfl | true => exact absurd (Nat.eq_of_beq_eq_true hx) hb
          rw [this] at h4
          exact ⟨.exit i, st', S', ρ', rfl, h2, h3, h4⟩
      | normal => exact h1.elim
      | ret => exact h1.elim
    | ret =>
      cases e' with
      | ret => exact ⟨_, st', S', ρ', h1, h2, h3, h4⟩
      | normal => exact h1.elim
      | exit i => exact h1.elim
    | goto l => exact h1.elim
    | panic ch => exact h1.elim
    | outgrown => exact h1.elim
  | loop c ih =>
    intro K st h w S ρ a hr hi
    refine wp_loop_of ?_
    have hl : loopP (exec (std call loopP) tt mv c) st K := h
    obtain ⟨s', hs, hx⟩ := hl (fun s => ∀ (w : World) (S : Stab) (ρ : Rho) (a : Act), RelS Γ w S ρ s a → Ids ρ s.nb → LG P c (Post Γ K) a w) (by
      intro s hb w S ρ a hr hi
      refine LG_step (wp_mono (ih _ s hb w S ρ a hr hi) ?_)
      rintro e a' w' ⟨e', st', S', ρ', h1, h2, h3, h4⟩
      cases e with
      | normal =>
        cases e' with
        | normal =>
          obtain ⟨s2, hs2, hx2⟩ := h4
          obtain ⟨S2, ρ2, h5, h6⟩ := hs2.2 Γ w' S' ρ' a' h2 h3
          exact hx2 w' S2 ρ2 a' h5 h6
        | exit i => exact h1.elim
        | ret => exact h1.elim
      | exit i =>
        cases e' with
        | exit j => exact ⟨_, st', S', ρ', h1, h2, h3, h4⟩
        | normal => exact h1.elim
        | ret => exact h1.elim
      | ret =>
        cases e' with
        | ret => exact ⟨_, st', S', ρ', h1, h2, h3, h4⟩
        | normal => exact h1.elim
        | exit i => exact h1.elim
      | goto l => exact h1.elim
      | panic ch => exact h1.elim
      | outgrown => exact h1.elim)
    obtain ⟨S2, ρ2, h5, h6⟩ := hs.2 Γ w S ρ a hr hi
    exact hx w S2 ρ2 a h5 h6
  | scope c ih => exact fun K st h => h.elim
  | goto l => exact fun K st h => h.elim
  | rangeFunc f ps as b ih1 ih2 => exact fun K st h => h.elim
  | refuse why => exact fun K st h => h.elim
end
end Go.Proofs.YtlpcphndgjibpaaDoor.Rx
