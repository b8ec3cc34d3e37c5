/- A region that draws its order: any order that its edges let does as its text's. No program's text. No condition. -/
import Derived.Test.YtlpcphndgjibpaaDoorZGRxC
namespace Go.Proofs.YtlpcphndgjibpaaDoor.Rx
open Go
/-! Calls under contracts, in any order. -/
def frzT (x : Ar) : TV → Ar
  | .c c => frz x c
  | .agg cs => frzL x cs
  | .tup _ => x
def frzTs (x : Ar) : List TV → Ar
  | [] => x
  | v :: r => frzTs (frzT x v) r
section
variable {R : Nat → Prop} {nid : Nat} {a : Ar}
theorem frzT_mono {v : TV} {x y : Ar} (h : AEq R x y) : AEq R (frzT x v) (frzT y v) := by
  cases v with
  | c c => exact frz_mono h
  | agg cs => exact frzL_mono cs h
  | tup _ => exact h
theorem dvT_mono {v y : TV} {a x a' : Ar} (hR : RefT R v) (h : dvT a v = some (y, a')) (hx : AEq R a x) : a' = frzT a v ∧ dvT x v = some (y, frzT x v) := by
  cases v with
  | c c =>
    simp only [dvT] at h
    cases hv : dvOf a c with
    | none => rw [hv] at h; cases h
    | some d =>
      rw [hv] at h
      simp only [Option.some.injEq, Prod.mk.injEq] at h
      obtain ⟨rfl, rfl⟩ := h
      simp only [RefT] at hR
      exact ⟨rfl, by simp only [dvT, aeq_dv hx hR hv, frzT]⟩
  | agg cs =>
    simp only [dvT] at h
    cases hv : dvsOf a cs with
    | none => rw [hv] at h; cases h
    | some p =>
      obtain ⟨ds, a1⟩ := p
      rw [hv] at h
      simp only [Option.some.injEq, Prod.mk.injEq] at h
      obtain ⟨rfl, rfl⟩ := h
      simp only [RefT] at hR
      exact ⟨dvsOf_self hv, by simp only [dvT, dvsOf_mono hR hv hx, frzT]⟩
  | tup _ => simp [dvT] at h
theorem dvTs_mono : ∀ {vs ys : List TV} {a x a' : Ar}, RefTs R vs → dvTs a vs = some (ys, a') → AEq R a x → a' = frzTs a vs ∧ dvTs x vs = some (ys, frzTs x vs)
  | [], ys, a, x, a', _, h, _ => by
    simp only [dvTs, Option.some.injEq, Prod.mk.injEq] at h
    obtain ⟨rfl, rfl⟩ := h
    exact ⟨rfl, rfl⟩
  | v :: r, ys, a, x, a', hR, h, hx => by
    simp only [RefTs] at hR
    simp only [dvTs] at h
    cases h1 : dvT a v with
    | none => rw [h1] at h; cases h
    | some p =>
      obtain ⟨y, a1⟩ := p
      rw [h1] at h
      dsimp only at h
      cases h2 : dvTs a1 r with
      | none => rw [h2] at h; cases h
      | some q =>
        obtain ⟨l, a2⟩ := q
        rw [h2] at h
        simp only [Option.some.injEq, Prod.mk.injEq] at h
        obtain ⟨rfl, rfl⟩ := h
        obtain ⟨rfl, h3⟩ := dvT_mono hR.1 h1 hx
        obtain ⟨h4, h5⟩ := dvTs_mono hR.2 h2 (frzT_mono (v := v) hx)
        exact ⟨h4, by simp only [dvTs, h3, h5, frzTs]⟩
mutual
theorem refC_all (h : ∀ b, R b) : ∀ c, RefC R c
  | .own b _ | .ptr b _ | .vptr b _ _ => by simp only [RefC]; exact h b
  | .clo _ cs => by simp only [RefC]; exact refCs_all h cs
  | .d _ | .iptr _ _ | .junk => by simp only [RefC]
theorem refCs_all (h : ∀ b, R b) : ∀ cs, RefCs R cs
  | [] => by simp only [RefCs]
  | c :: r => by simp only [RefCs]; exact ⟨refC_all h c, refCs_all h r⟩
end
mutual
theorem refT_all (h : ∀ b, R b) : ∀ v, RefT R v
  | .c x => by simp only [RefT]; exact refC_all h x
  | .agg cs => by simp only [RefT]; exact refCs_all h cs
  | .tup ts => by simp only [RefT]; exact refTs_all h ts
theorem refTs_all (h : ∀ b, R b) : ∀ vs, RefTs R vs
  | [] => by simp only [RefTs]
  | v :: r => by simp only [RefTs]; exact ⟨refT_all h v, refTs_all h r⟩
end
section
variable {w : World} {S : Stab} {ρ : Rho} {ar : Ar}
mutual
theorem refC_rel : ∀ c u, RelC w S ρ ar c u → RefC (fun b => ρ b ≠ .free) c
  | .own b _, u, h | .ptr b _, u, h | .vptr b _ _, u, h => by simp only [RelC] at h; simp only [RefC]; exact h.2.1
  | .clo _ cs, u, h => by simp only [RelC] at h; obtain ⟨vs, _, h⟩ := h; simp only [RefC]; exact refCs_rel cs vs h
  | .d _, u, h | .iptr _ _, u, h | .junk, u, h => by simp only [RefC]
theorem refCs_rel : ∀ cs us, RelCs w S ρ ar cs us → RefCs (fun b => ρ b ≠ .free) cs
  | [], _, h => by simp only [RefCs]
  | c :: r, u :: s, h => by simp only [RelCs] at h; simp only [RefCs]; exact ⟨refC_rel c u h.1, refCs_rel r s h.2⟩
  | _ :: _, [], h => by simp [RelCs] at h
end
mutual
theorem refT_rel : ∀ v u, RelT w S ρ ar v u → RefT (fun b => ρ b ≠ .free) v
  | .c x, u, h => by simp only [RelT] at h; simp only [RefT]; exact refC_rel x u h
  | .agg cs, u, h => by simp only [RelT] at h; obtain ⟨vs, _, h⟩ := h; simp only [RefT]; exact refCs_rel cs vs h
  | .tup ts, u, h => by simp only [RelT] at h; obtain ⟨vs, _, h⟩ := h; simp only [RefT]; exact refTs_rel ts vs h
theorem refTs_rel : ∀ vs us, RelTs w S ρ ar vs us → RefTs (fun b => ρ b ≠ .free) vs
  | [], _, h => by simp only [RefTs]
  | v :: r, u :: s, h => by simp only [RelTs] at h; simp only [RefTs]; exact ⟨refT_rel v u h.1, refTs_rel r s h.2⟩
  | _ :: _, [], h => by simp [RelTs] at h
end
end
theorem frzT_dead (b : Nat) (v : TV) (x : Ar) : frzT x v b = .dead ↔ x b = .dead := by
  cases v with
  | c c => exact frz_dead x c b
  | agg cs => exact frzL_dead cs x b
  | tup _ => exact Iff.rfl
theorem frzT_tr {v y : TV} {b0 a' : Ar} (h : dvT b0 v = some (y, a')) (hb : ∀ b, b0 b ≠ .dead → a b ≠ .dead) {T : Ar → Ar} (hT : Tr nid a T) : Tr nid a (fun x => frzT (T x) v) := by
  cases v with
  | c c =>
    cases c with
    | own b len =>
      simp only [dvT] at h
      cases hv : dvOf b0 (.own b len) with
      | none => rw [hv] at h; cases h
      | some d =>
        obtain ⟨L, e, sz, f, wr, st, hbb, _⟩ := dvOf_own hv
        exact .frz b (hb b (by rw [hbb]; intro e; cases e)) hT
    | _ => exact hT
  | agg cs =>
    simp only [dvT] at h
    cases hv : dvsOf b0 cs with
    | none => rw [hv] at h; cases h
    | some p => exact frzL_tr hv hb hT
  | tup _ => exact hT
theorem frzTs_tr : ∀ {vs ys : List TV} {b0 a' : Ar}, dvTs b0 vs = some (ys, a') → (∀ b, b0 b ≠ .dead → a b ≠ .dead) → ∀ {T : Ar → Ar}, Tr nid a T → Tr nid a (fun x => frzTs (T x) vs)
  | [], _, _, _, _, _, _, hT => hT
  | v :: r, ys, b0, a', h, hb, T, hT => by
    simp only [dvTs] at h
    cases h1 : dvT b0 v with
    | none => rw [h1] at h; cases h
    | some p =>
      obtain ⟨y, a1⟩ := p
      rw [h1] at h
      dsimp only at h
      cases h2 : dvTs a1 r with
      | none => rw [h2] at h; cases h
      | some q =>
        have hd : ∀ b, a1 b ≠ .dead → a b ≠ .dead := fun b h3 => hb b fun h4 => h3 (by
          have := (frzT_dead b v b0).2 h4
          have h5 := dvT_mono (R := fun _ => True) (v := v) (refT_all (fun _ => trivial) v) h1 (AEq.refl _ b0)
          rw [h5.1]; exact this)
        exact frzTs_tr h2 hd (frzT_tr h1 hb hT)
theorem placeL_tr : ∀ {l : List Blk} {i : Nat} {T : Ar → Ar}, i + l.length ≤ 8 → Tr nid a T → Tr nid a (fun x => placeL (T x) nid i l)
  | [], _, _, _, hT => hT
  | B :: r, i, T, hi, hT => by
    simp only [List.length_cons] at hi
    exact placeL_tr (l := r) (i := i + 1) (by omega) (.new (nid + i) (shB nid B) (by omega) (by omega) hT)
end
theorem callP_mono (P : Program) (N : Nat) (G : World → Prop) (mv : List Nat) : CallMono mv (callP P N G) := by
  rintro f args st K _ ⟨args', ds, ar1, l, res, h1, h2, h3, h4, hk⟩ R hR
  obtain ⟨rfl, h5⟩ := dvTs_mono hR h1 (AEq.refl R _)
  refine ⟨_, fun x => placeL (frzTs x args) st.nb 0 l, hk, fun st2 K2 hnb hx => ?_⟩
  obtain ⟨_, h6⟩ := dvTs_mono hR h1 hx
  refine ⟨placeL_tr (T := fun x => frzTs x args) (by have := Nat.le_of_ble_eq_true h4; omega) (frzTs_tr (T := fun x => x) h6 (fun _ hb => hb) .id), fun hk2 => ?_⟩
  refine ⟨args', ds, _, l, res, h6, h2, h3, h4, ?_⟩
  simp only [hnb] at hk2 ⊢; exact hk2
theorem callP_env (P : Program) (N : Nat) (G : World → Prop) : CallEnv (callP P N G) := by
  intro f args st K hk
  obtain ⟨v, T, h1, h2⟩ := callP_mono P N G [] f args st K rfl hk (fun _ => True) (refTs_all (fun _ => trivial) args)
  refine ⟨v, _, h1, fun b hb => ?_, fun st2 K2 hnb har hk2 => ?_⟩
  · by_cases hc : st.nb ≤ b ∧ b < st.nb + 8
    · exact .inr hc
    · exact .inl ((h2 st K rfl (AEq.refl _ _)).1.dead hb hc)
  · obtain ⟨_, h3⟩ := h2 st2 K2 hnb (by rw [har]; exact AEq.refl _ _)
    exact h3 (by rw [har]; exact hk2)
/-! Operations that write. -/
section
variable {θ : Pr} {tt : TT} {mv : List Nat} {a a' : Ar} {nid : Nat} {e : Nat → TV} {v : TV} {pre : Prop} {op : Op}
theorem dvsOf_dead {cs : List CV} {ds : List DV} (h : dvsOf a cs = some (ds, a')) (b : Nat) : a' b = .dead ↔ a b = .dead := by
  rw [dvsOf_self h]; exact frzL_dead cs a b
theorem op_dead (mv : List Nat) (h : doOp θ tt e a nid op = .one pre v a') {b : Nat} (hb : a b = .dead) : a' b = .dead ∨ (nid ≤ b ∧ b < nid + 8) := by
  by_cases hc : cls mv op ≤ 1
  · rcases op_mono (θ := θ) (tt := tt) (mv := mv) (R := fun _ => True) (e := e) (a := a) (nid := nid) hc (fun x _ => refT_all (fun _ => trivial) _) with (⟨p, u, T, hm⟩ | hm) | ⟨t, u, u', hm⟩ | ⟨f, l, _, _, hm⟩
    · obtain ⟨h1, h2⟩ := hm a (AEq.refl _ _)
      dsimp only at h2
      rw [h] at h2
      injection h2 with _ _ h3
      subst h3
      by_cases hn : nid ≤ b ∧ b < nid + 8
      · exact .inr hn
      · exact .inl (h1.dead hb hn)
    · dsimp only at hm; rw [h] at hm; cases hm
    · rw [hm] at h; cases h
    · rw [hm] at h; cases h
  · cases op with
    | store t x y =>
      simp only [doOp] at h
      unfold doStore at h
      simp only [Bool.cond_eq_ite] at h
      split at h
      · split at h
        · split at h
          · rename_i q j _
            cases hq : a q with
            | dead => rw [hq] at h; cases h
            | vec _ _ _ _ _ _ => rw [hq] at h; cases h
            | box cs =>
              rw [hq] at h
              dsimp only at h
              split at h
              · injection h with _ _ h3
                subst h3
                have : b ≠ q := fun e => by subst e; rw [hb] at hq; cases hq
                exact .inl (by rw [setB_other _ _ this]; exact hb)
              · cases h
          · rename_i q i j _
            split at h
            · rename_i ds a1 hds
              have hb1 := (dvsOf_dead hds b).2 hb
              cases hq : a1 q with
              | dead => rw [hq] at h; cases h
              | box _ => rw [hq] at h; cases h
              | vec L e' sz f wr st =>
                rw [hq] at h
                cases wr with
                | false => cases h
                | true =>
                  dsimp only at h
                  split at h
                  · injection h with _ _ h3
                    subst h3
                    have : b ≠ q := fun e => by subst e; rw [hb1] at hq; cases hq
                    exact .inl (by rw [setB_other _ _ this]; exact hb1)
                  · cases h
            · cases h
          · cases h
        · cases h
      · cases h
    | call c =>
      simp only [doOp] at h
      cases hcc : c.callee with
      | value f =>
        rw [hcc] at h
        dsimp only at h
        unfold callOf at h
        split at h <;> cases h
      | invoke r m => rw [hcc] at h; cases h
      | builtin bb =>
        rw [hcc] at h
        dsimp only at h
        unfold doBuiltin at h
        split at h
        · simp [cls, hcc] at hc
        · unfold doAppend at h
          simp only [Bool.cond_eq_ite] at h
          split at h
          · split at h
            · split at h
              · cases h
              · split at h
                · split at h
                  · injection h with _ _ h3
                    subst h3
                    by_cases hn : b = nid
                    · exact .inr (by omega)
                    · exact .inl (by rw [setB_other _ _ hn]; exact hb)
                  · rename_i q len _
                    split at h
                    · split at h
                      · injection h with _ _ h3
                        subst h3
                        by_cases hn : b = nid
                        · exact .inr (by omega)
                        · refine .inl ?_
                          rw [setB_other _ _ hn]
                          by_cases hq : b = q
                          · subst hq; exact setB_same _ _ _
                          · rw [setB_other _ _ hq]; exact hb
                      · cases h
                    · cases h
                  · cases h
                · cases h
            · cases h
          · cases h
        · simp [cls, hcc] at hc
        · simp [cls, hcc] at hc
        · unfold doClear at h
          simp only [Bool.cond_eq_ite] at h
          split at h
          · split at h
            · rename_i hq
              split at h
              · injection h with _ _ h3
                subst h3
                exact .inl (by rw [setB_other _ _ (fun e => by subst e; rw [hb] at hq; cases hq)]; exact hb)
              · cases h
            · cases h
          · cases h
        · unfold doCopy at h
          simp only [Bool.cond_eq_ite] at h
          split at h
          · split at h
            · rename_i hq
              split at h
              · split at h
                · injection h with _ _ h3
                  subst h3
                  exact .inl (by rw [setB_other _ _ (fun e => by subst e; rw [hb] at hq; cases hq)]; exact hb)
                · cases h
              · cases h
            · cases h
          · cases h
        · cases h
    | _ => first | (simp [cls] at hc; done) | (simp only [doOp] at h; cases h)
end
section
variable {tt : TT} {mv : List Nat} {R : Nat → Prop} {call : CallT} {loop : LoopT} {ops : List Oper} {i j : Nat} {o x y : Oper} {st : St} {K : St → Prop}
theorem oper_any (hce : CallEnv call) (h : doOper (std call loop) tt ops i o st K) :
    ∃ v ar', K { st with env := putD st.env o.dst v, ar := ar' } ∧ (∀ b, st.ar b = .dead → ar' b = .dead ∨ (st.nb + 8 * i ≤ b ∧ b < st.nb + 8 * i + 8)) ∧
      ∀ (st2 : St) (K2 : St → Prop), st2.nb = st.nb → st2.nt = st.nt → st2.ar = st.ar → (∀ t ∈ looks ops o, st2.env t = st.env t) → K2 { st2 with env := putD st2.env o.dst v, ar := ar' } → doOper (std call loop) tt ops i o st2 K2 := by
  rw [doOper_iff] at h
  obtain ⟨hok, h⟩ := h
  cases hg : guardB ops o st.env with
  | none => rw [hg] at h; exact h.elim
  | some b =>
    rw [hg] at h
    have hg2 : ∀ st2 : St, (∀ t ∈ looks ops o, st2.env t = st.env t) → guardB ops o st2.env = some b := fun st2 he => (guardB_env fun t ht => he t (looks_guard ht)).trans hg
    cases b with
    | false =>
      refine ⟨undefV, st.ar, h, fun b hb => .inl hb, fun st2 K2 hnb hnt har he hk => ?_⟩
      refine doOper_iff.2 ⟨by rw [hnt]; exact hok, ?_⟩
      rw [hg2 st2 he]
      rw [← har] at hk
      exact hk
    | true =>
      dsimp only at h
      unfold runOp at h
      have henv : ∀ (e2 : Nat → TV), (∀ t ∈ looks ops o, e2 t = st.env t) → doOp (std call loop) tt e2 st.ar (st.nb + 8 * i) o.op = doOp (std call loop) tt st.env st.ar (st.nb + 8 * i) o.op := fun e2 he => doOp_env fun t ht => he t (looks_op ht)
      have hto : ∀ (e2 : Nat → TV) (np2 : Nat) (K2 : St → Prop), (∀ t ∈ looks ops o, e2 t = st.env t) → runOp (std call loop) tt i o { st with env := e2, np := np2 } K2 e2 → doOper (std call loop) tt ops i o { st with env := e2, np := np2 } K2 := fun e2 np2 K2 he hr => by
        refine doOper_iff.2 ⟨hok, ?_⟩
        rw [hg2 _ he]
        exact hr
      cases hout : doOp (std call loop) tt st.env st.ar (st.nb + 8 * i) o.op with
      | bad => rw [hout] at h; exact h.elim
      | one pre v ar' =>
        rw [hout] at h
        refine ⟨v, ar', h.2, fun b hb => op_dead [] hout hb, fun st2 K2 hnb hnt har he hk => ?_⟩
        obtain ⟨e2, ar2, nb2, nt2, np2⟩ := st2
        dsimp only at hnb hnt har he hk
        subst hnb hnt har
        refine hto e2 np2 K2 he ?_
        unfold runOp
        dsimp only
        rw [henv e2 he, hout]
        exact ⟨h.1, hk⟩
      | pick t u v =>
        rw [hout] at h
        refine ⟨bif t then u else v, st.ar, by cases t <;> exact h, fun b hb => .inl hb, fun st2 K2 hnb hnt har he hk => ?_⟩
        obtain ⟨e2, ar2, nb2, nt2, np2⟩ := st2
        dsimp only at hnb hnt har he hk
        subst hnb hnt har
        refine hto e2 np2 K2 he ?_
        unfold runOp
        dsimp only
        rw [henv e2 he, hout]
        cases t <;> exact hk
      | call f args =>
        rw [hout] at h
        obtain ⟨v, ar', h1, h2, h3⟩ := hce f args _ _ h
        refine ⟨v, ar', h1, h2, fun st2 K2 hnb hnt har he hk => ?_⟩
        obtain ⟨e2, ar2, nb2, nt2, np2⟩ := st2
        dsimp only at hnb hnt har he hk
        subst hnb hnt har
        refine hto e2 np2 K2 he ?_
        unfold runOp
        dsimp only
        rw [henv e2 he, hout]
        exact h3 { st with env := e2, np := np2, nb := st.nb + 8 * i } _ rfl rfl hk
theorem doOper_mono (hce : CallEnv call) {K2 : St → Prop} (hk : ∀ s, K s → K2 s) (h : doOper (std call loop) tt ops i o st K) : doOper (std call loop) tt ops i o st K2 := by
  obtain ⟨v, ar', h1, _, h3⟩ := oper_any hce h
  exact h3 st K2 rfl rfl rfl (fun _ _ => rfl) (hk _ h1)
theorem Tr.back {nid : Nat} {a : Ar} {T : Ar → Ar} (h : Tr nid a T) (hR : ∀ b, R b → ¬ (nid ≤ b ∧ b < nid + 8)) (x : Ar) : AEq R (T x) x := by
  induction h with
  | id => exact AEq.refl _ _
  | @frz T b hb _ ih =>
    refine ⟨fun c cs hr hc => ?_, fun c L e sz f wr st hr hc => ?_⟩ <;> dsimp only at hc
    · rw [frz_at] at hc
      by_cases h : c = b
      · subst h
        rw [if_pos rfl] at hc
        cases hx : T x c with
        | dead => rw [hx] at hc; cases hc
        | vec _ _ _ _ _ _ => rw [hx] at hc; cases hc
        | box ds => rw [hx] at hc; injection hc with e; subst e; exact ih.1 c _ hr hx
      · rw [if_neg h] at hc; exact ih.1 c cs hr hc
    · rw [frz_at] at hc
      by_cases h : c = b
      · subst h
        rw [if_pos rfl] at hc
        cases hx : T x c with
        | dead => rw [hx] at hc; cases hc
        | box ds => rw [hx] at hc; cases hc
        | vec L' e' sz' f' wr' st' =>
          rw [hx] at hc
          injection hc with e1 e2 e3 e4 e5 e6
          subst e1 e2 e3 e4 e6
          exact ih.2 c _ _ _ _ _ _ hr hx
      · rw [if_neg h] at hc; exact ih.2 c L e sz f wr st hr hc
  | @new T k B h1 h2 _ ih =>
    refine ⟨fun c cs hr hc => ?_, fun c L e sz f wr st hr hc => ?_⟩ <;> dsimp only at hc
    · have : c ≠ k := fun e => hR c hr (by omega)
      rw [setB_other _ _ this] at hc; exact ih.1 c cs hr hc
    · have : c ≠ k := fun e => hR c hr (by omega)
      rw [setB_other _ _ this] at hc; exact ih.2 c L e sz f wr st hr hc
theorem putD_other {e : Nat → TV} {d : Option Nat} {v : TV} {t : Nat} (h : ∀ k, d = some k → t ≠ k) : putD e d v t = e t := by
  cases d with
  | none => rfl
  | some k => exact put_other _ _ (h k rfl)
theorem putD_comm {e : Nat → TV} {d d' : Option Nat} {v u : TV} (h : ∀ k k', d = some k → d' = some k' → k ≠ k') : putD (putD e d v) d' u = putD (putD e d' u) d v := by
  cases d with
  | none => rfl
  | some k =>
    cases d' with
    | none => rfl
    | some k' =>
      have hk := h k k' rfl rfl
      funext t
      simp only [putD]
      by_cases h1 : t = k
      · subst h1
        rw [put_other _ _ hk, put_same, put_same]
      · by_cases h2 : t = k'
        · subst h2; rw [put_same, put_other _ _ h1, put_same]
        · rw [put_other _ _ h2, put_other _ _ h1, put_other _ _ h1, put_other _ _ h2]
theorem apart_spec (h : apart ops x y = true) : (∀ d, x.dst = some d → d ∉ looks ops y) ∧ (∀ d, y.dst = some d → d ∉ looks ops x) ∧ ∀ d d', x.dst = some d → y.dst = some d' → d ≠ d' := by
  unfold apart at h
  simp only [Bool.and_eq_true] at h
  obtain ⟨h1, h2⟩ := h
  refine ⟨fun d hd hm => ?_, fun d hd hm => ?_, fun d d' hd hd' he => ?_⟩
  · rw [hd] at h1
    simp only [Bool.and_eq_true] at h1
    rw [memB_iff.2 hm] at h1
    cases h1.1
  · rw [hd] at h2
    dsimp only at h2
    rw [memB_iff.2 hm] at h2
    cases h2
  · rw [hd] at h1
    simp only [Bool.and_eq_true, hd'] at h1
    subst he
    rw [Nat.beq_refl] at h1
    cases h1.2
/-- Two operations in the other order. -/
theorem oper_swap (hcm : CallMono mv call) (hce : CallEnv call) (hs : swap2 mv ops x y = true) (hij : i ≠ j)
    (hdi : ∀ b, st.nb + 8 * i ≤ b → b < st.nb + 8 * i + 8 → st.ar b = .dead) (hdj : ∀ b, st.nb + 8 * j ≤ b → b < st.nb + 8 * j + 8 → st.ar b = .dead)
    (hR : ∀ t ∈ looks ops y, RefT R (st.env t)) (hRi : ∀ b, R b → ¬ (st.nb + 8 * i ≤ b ∧ b < st.nb + 8 * i + 8))
    (h : doOper (std call loop) tt ops i x st (fun s => doOper (std call loop) tt ops j y s K)) : doOper (std call loop) tt ops j y st (fun s => doOper (std call loop) tt ops i x s K) := by
  unfold swap2 at hs
  simp only [Bool.and_eq_true, Bool.or_eq_true] at hs
  obtain ⟨hap, hcl⟩ := hs
  obtain ⟨a1, a2, a3⟩ := apart_spec hap
  have ex : ∀ (e : Nat → TV) v t, t ∈ looks ops y → putD e x.dst v t = e t := fun e v t ht => putD_other fun k hk he => a1 k hk (he ▸ ht)
  have ey : ∀ (e : Nat → TV) v t, t ∈ looks ops x → putD e y.dst v t = e t := fun e v t ht => putD_other fun k hk he => a2 k hk (he ▸ ht)
  rcases hcl with (hx0 | hy0) | ⟨hx1, hy1⟩
  · obtain ⟨v, h1, h2⟩ := oper_zero (Nat.eq_of_beq_eq_true hx0) h
    obtain ⟨u, ar', h3, _, h4⟩ := oper_any hce h1
    refine h4 st _ rfl rfl rfl (fun t ht => (ex _ _ t ht).symm) ?_
    refine h2 _ _ rfl (fun t ht => ey _ _ t ht) ?_
    dsimp only at h3 ⊢
    rw [← putD_comm a3]
    exact h3
  · obtain ⟨v, ar', h1, _, h2⟩ := oper_any hce h
    obtain ⟨u, h3, h4⟩ := oper_zero (Nat.eq_of_beq_eq_true hy0) h1
    refine h4 st _ rfl (fun t ht => (ex _ _ t ht).symm) ?_
    refine h2 _ _ rfl rfl rfl (fun t ht => ey _ _ t ht) ?_
    dsimp only at h3 ⊢
    rw [← putD_comm a3]
    exact h3
  · obtain ⟨v, T, h1, h2⟩ := oper_mono (R := fun _ => True) hcm (Nat.le_of_eq (Nat.eq_of_beq_eq_true hx1)) h (fun t _ => refT_all (fun _ => trivial) _)
    obtain ⟨htr, _⟩ := h2 st (fun _ => True) rfl rfl (fun _ _ => rfl) (AEq.refl _ _)
    obtain ⟨u, T2, h3, h4⟩ := oper_mono (R := R) hcm (Nat.le_of_eq (Nat.eq_of_beq_eq_true hy1)) h1 (fun t ht => by dsimp only; rw [ex _ _ t ht]; exact hR t ht)
    obtain ⟨htr2, h5⟩ := h4 st (fun s => doOper (std call loop) tt ops i x s K) rfl rfl (fun t ht => (ex _ _ t ht).symm) (htr.back hRi st.ar)
    refine h5 ?_
    obtain ⟨_, h6⟩ := h2 { st with env := putD st.env y.dst u, ar := T2 st.ar } K rfl rfl (fun t ht => ey _ _ t ht) (htr2.aeq (fun b h7 h8 => hdj b h7 h8) (AEq.refl _ _))
    refine h6 ?_
    dsimp only at h3 ⊢
    rw [← putD_comm a3, htr.comm htr2 hdi hdj (by show st.nb + 8 * i + 8 ≤ st.nb + 8 * j ∨ st.nb + 8 * j + 8 ≤ st.nb + 8 * i; omega)]
    exact h3
def doL (θ : Pr) (tt : TT) (ops : List Oper) : List Nat → St → (St → Prop) → Prop
  | [], st, K => K st
  | i :: r, st, K => match nth ops i with
    | none => False
    | some o => doOper θ tt ops i o st (fun s => doL θ tt ops r s K)
/-- One that may come up now is done first. -/
theorem front (hcm : CallMono mv call) (hce : CallEnv call) (hj : nth ops j = some y) {r : List Nat} : ∀ (l : List Nat) (st : St), (∀ i ∈ l, i ≠ j ∧ ∀ x, nth ops i = some x → swap2 mv ops x y = true) → l.Nodup →
    (∀ b i, (i ∈ l ∨ i = j) → st.nb + 8 * i ≤ b → b < st.nb + 8 * i + 8 → st.ar b = .dead) →
    (∀ t ∈ looks ops y, RefT R (st.env t)) → (∀ b, R b → ∀ i ∈ l, ¬ (st.nb + 8 * i ≤ b ∧ b < st.nb + 8 * i + 8)) →
    doL (std call loop) tt ops (l ++ j :: r) st K → doOper (std call loop) tt ops j y st (fun s => doL (std call loop) tt ops (l ++ r) s K)
  | [], st, _, _, _, _, _, h => by
    simp only [List.nil_append, doL, hj] at h
    exact h
  | i :: l, st, hl, hnd, hdead, hR, hRl, h => by
    simp only [List.cons_append, doL] at h ⊢
    cases hi : nth ops i with
    | none => rw [hi] at h; exact h.elim
    | some x =>
      rw [hi] at h
      dsimp only at h ⊢
      obtain ⟨hij, hsw⟩ := hl i List.mem_cons_self
      have hs := hsw x hi
      obtain ⟨v, ar', h1, h2, h3⟩ := oper_any hce h
      have hap : apart ops x y = true := by unfold swap2 at hs; simp only [Bool.and_eq_true] at hs; exact hs.1
      have ex : ∀ t ∈ looks ops y, putD st.env x.dst v t = st.env t := fun t ht => putD_other fun k hk he => (apart_spec hap).1 k hk (he ▸ ht)
      rw [List.nodup_cons] at hnd
      have := front hcm hce hj (r := r) l { st with env := putD st.env x.dst v, ar := ar' } (fun k hk => hl k (List.mem_cons_of_mem _ hk)) hnd.2 (fun b k hk h4 h5 => by
        dsimp only at h4 h5 ⊢
        rcases h2 b (hdead b k (hk.imp_left (List.mem_cons_of_mem _)) h4 h5) with h6 | h6
        · exact h6
        · have : k = i := by omega
          subst this
          rcases hk with hk | hk
          · exact absurd hk hnd.1
          · exact absurd hk hij) (fun t ht => by dsimp only; rw [ex t ht]; exact hR t ht) (fun b hb k hk => hRl b hb k (List.mem_cons_of_mem _ hk)) h1
      refine oper_swap hcm hce hs hij (fun b => hdead b i (.inl List.mem_cons_self)) (fun b => hdead b j (.inr rfl)) hR (fun b hb => hRl b hb i List.mem_cons_self) ?_
      exact h3 st _ rfl rfl rfl (fun _ _ => rfl) this
theorem doL_of (hce : CallEnv call) : ∀ (l : List Oper) (i : Nat) (st : St), (∀ k, l[k]? = ops[i + k]?) → doOpers (std call loop) tt ops i l st K → doL (std call loop) tt ops (List.range' i l.length) st (fun s => K { s with nb := s.nb + 8 * lenN ops })
  | [], i, st, _, h => by simpa only [doOpers, List.length_nil, List.range'_zero, doL] using h
  | o :: l, i, st, hl, h => by
    simp only [List.length_cons, List.range'_succ, doL]
    have h0 : nth ops i = some o := by rw [nth_eq]; simpa using (hl 0).symm
    rw [h0]
    simp only [doOpers] at h
    exact doOper_mono hce (fun s hs => doL_of hce l (i + 1) s (fun k => by have := hl (k + 1); simpa [Nat.add_assoc, Nat.add_comm 1 k] using this) hs) h
theorem binds_any (e : Edge) : Region.binds .any e = bindsE e := by
  unfold Region.binds bindsE
  cases e.ground <;> rfl
theorem isAnc_listed {C : Nat → Prop} : ∀ (n i : Nat), isAnc ops n i j = true → (∀ o, nth ops i = some o → ∀ e ∈ o.after, bindsE e = true → C e.on) → (∀ i, C i → ∀ o, nth ops i = some o → ∀ e ∈ o.after, bindsE e = true → C e.on) → C j
  | 0, i, h, _, _ => by simp [isAnc] at h
  | n + 1, i, h, hi, hc => by
    unfold isAnc at h
    cases ho : nth ops i with
    | none => rw [ho] at h; cases h
    | some o =>
      rw [ho] at h
      simp only [Bool.or_eq_true, List.any_eq_true, Bool.and_eq_true] at h
      rcases h with ⟨e, he, hb, hj⟩ | ⟨e, he, hb, hr⟩
      · have := hi o ho e (by simpa using he) hb
        rw [Nat.eq_of_beq_eq_true hj] at this
        exact this
      · have := hi o ho e (by simpa using he) hb
        exact isAnc_listed n e.on hr (fun o2 h2 => hc e.on this o2 h2) hc
theorem sw_spec (h : swapOk mv ops = true) (hi : nth ops i = some o) : (∀ e ∈ o.after, bindsE e = true → e.on < i) ∧ ∀ k, k < i → ∃ p, nth ops k = some p ∧ (isAnc ops 4 i k = true ∨ swap2 mv ops p o = true) := by
  unfold swapOk at h
  rw [List.all_eq_true] at h
  have hlt : i < ops.length := by
    rw [nth_eq] at hi
    exact (List.getElem?_eq_some_iff.1 hi).1
  have h1 := h i (List.mem_range.2 hlt)
  rw [hi] at h1
  simp only [Bool.and_eq_true, List.all_eq_true] at h1
  refine ⟨fun e he hb => ?_, fun k hk => ?_⟩
  · have := h1.1 e (by simpa using he)
    rw [hb] at this
    simpa using this
  · have := h1.2 k (List.mem_range.2 hk)
    cases hp : nth ops k with
    | none => rw [hp] at this; cases this
    | some p =>
      rw [hp] at this
      exact ⟨p, rfl, by simpa using this⟩
end
section
variable {P : Program} {tt : TT} {Γ : Ctx} {call : CallT} {loop : LoopT} {N : Nat} {G : World → Prop} {mv : List Nat}
theorem any_of (hc : CallOk P N G call) (hNG : Γ.N = N ∧ Γ.G = G) (hT : TTok P tt) (hcm : CallMono mv call) (hce : CallEnv call) (ops : Array Oper) (hsw : swapOk mv ops.toList = true) {K : St → Prop} {Q : Exit → Act → World → Prop} {nb : Nat}
    (hQ : ∀ st w S ρ a, K st → RelS Γ w S ρ st a → st.nb = nb → (∀ b, ρ b ≠ .free → b < nb + 8 * ops.size) → Q .normal a w) :
    ∀ (fuel : Nat) (l : List Nat) (listed : Array Bool) (st : St) (w : World) (S : Stab) (ρ : Rho) (a : Act), l.length = fuel → l.Pairwise (· < ·) → (∀ i, i ∈ l ↔ listed.getD i true = false) → listed.size = ops.size →
      (∀ i o, ops[i]? = some o → listed.getD i false = true → ∀ e ∈ o.after, bindsE e = true → listed.getD e.on false = true) → st.nb = nb → RelS Γ w S ρ st a →
      (∀ b, ρ b ≠ .free → b < nb + 8 * ops.size ∧ ∀ i ∈ l, ¬ (nb + 8 * i ≤ b ∧ b < nb + 8 * i + 8)) → doL (std call loop) tt ops.toList l st K → wpAny P .any ops Q fuel listed a w := by
  intro fuel
  have hnth : ∀ i, nth ops.toList i = ops[i]? := fun i => by rw [nth_eq, Array.getElem?_toList]
  induction fuel with
  | zero =>
    intro l listed st w S ρ a hlen _ hmem _ _ hnb hr hids h
    cases l with
    | cons _ _ => cases hlen
    | nil =>
      refine ⟨?_, hQ st w S ρ a h hr hnb fun b hb => (hids b hb).1⟩
      rw [List.eq_nil_iff_forall_not_mem]
      intro i hi
      have := (hmem i).2 (mem_ready.1 hi).1
      cases this
  | succ fuel ih =>
    intro l listed st w S ρ a hlen hpw hmem hsz hcl hnb hr hids h
    have hgd : ∀ i, i < ops.size → i ∉ l → listed.getD i false = true := fun i hi hn => by
      have h1 : listed.getD i true ≠ false := fun e => hn ((hmem i).2 e)
      have h2 : i < listed.size := by omega
      simp only [Array.getD_eq_getD_getElem?, Array.getElem?_eq_getElem h2, Option.getD_some] at h1 ⊢
      simpa using h1
    have hlt : ∀ i, i ∈ l → i < ops.size := fun i hi => by
      have h1 := (hmem i).1 hi
      rcases Nat.lt_or_ge i listed.size with h2 | h2
      · omega
      · rw [Array.getD_eq_getD_getElem?, Array.getElem?_eq_none h2] at h1
        cases h1
    refine ⟨fun hnil => ?_, fun i hi => ?_⟩
    · exfalso
      cases l with
      | nil => cases hlen
      | cons i l =>
        have hil := hlt i List.mem_cons_self
        have ho : ops[i]? = some ops[i] := Array.getElem?_eq_getElem hil
        have : i ∈ Region.ready .any ops listed := mem_ready.2 ⟨(hmem i).1 List.mem_cons_self, ops[i], ho, fun e he hb => by
          rw [binds_any] at hb
          have h1 := (sw_spec hsw ((hnth i).trans ho)).1 e he hb
          refine hgd e.on (by omega) fun hm => ?_
          rcases List.mem_cons.1 hm with h2 | h2
          · omega
          · have := (List.pairwise_cons.1 hpw).1 _ h2; omega⟩
        rw [hnil] at this
        cases this
    · obtain ⟨hun, o, ho, hall⟩ := mem_ready.1 hi
      have hil : i ∈ l := (hmem i).2 hun
      obtain ⟨l1, l2, rfl⟩ := List.append_of_mem hil
      have hnd : (l1 ++ i :: l2).Nodup := hpw.imp fun h => Nat.ne_of_lt h
      have hl1 : ∀ k ∈ l1, k < i := fun k hk => (List.pairwise_append.1 hpw).2.2 k hk i List.mem_cons_self
      have hni : i ∉ l1 ++ l2 := fun hm => by
        rw [List.nodup_append] at hnd
        rcases List.mem_append.1 hm with h1 | h1
        · exact hnd.2.2 i h1 i List.mem_cons_self rfl
        · exact (List.nodup_cons.1 hnd.2.1).1 h1
      have hdead : ∀ b k, k ∈ l1 ++ i :: l2 → nb + 8 * k ≤ b → b < nb + 8 * k + 8 → ρ b = .free := fun b k hk h1 h2 => by
        cases hs : ρ b with
        | free => rfl
        | virt => exact absurd ⟨h1, h2⟩ ((hids b (by rw [hs]; intro e; cases e)).2 k hk)
        | «at» q => exact absurd ⟨h1, h2⟩ ((hids b (by rw [hs]; intro e; cases e)).2 k hk)
      have hfr := front (R := fun b => ρ b ≠ .free) hcm hce ((hnth i).trans ho) (r := l2) l1 st (fun k hk => ?_) (List.nodup_append.1 hnd).1 (fun b k hk h1 h2 => ?_) (fun t ht => refT_rel _ _ (hr.env t)) (fun b hb k hk => ?_) h
      · refine doOper_ok hc hNG hT ops i o ho hr (fun b h1 h2 => hdead b i (by simp) (by omega) (by omega)) hfr (fun st' w' S' ρ' a' hk hnb' hr' hids' => ?_)
        refine ih (l1 ++ l2) (listed.setIfInBounds i true) st' w' S' ρ' a' ?_ ?_ (fun k => ?_) (by simpa using hsz) (fun k o2 ho2 hk2 e he hb => ?_) (hnb'.trans hnb) hr' (fun b hb => ?_) hk
        · simp only [List.length_append, List.length_cons] at hlen ⊢; omega
        · exact hpw.sublist (List.Sublist.append_left (List.sublist_cons_self _ _) _)
        · by_cases hki : i = k
          · subst hki
            refine ⟨fun hm => absurd hm hni, fun hm => ?_⟩
            have : i < listed.size := by have := hlt i hil; omega
            simp [this] at hm
          · rw [getD_set_ne true hki, ← hmem k]
            simp only [List.mem_append, List.mem_cons]
            constructor
            · rintro (h1 | h1)
              · exact .inl h1
              · exact .inr (.inr h1)
            · rintro (h1 | h1 | h1)
              · exact .inl h1
              · exact absurd h1.symm hki
              · exact .inr h1
        · by_cases hki : i = k
          · subst hki
            rw [ho] at ho2
            cases ho2
            exact getD_set_true (hall e he (by rw [binds_any]; exact hb))
          · rw [getD_set_ne false hki] at hk2
            exact getD_set_true (hcl k o2 ho2 hk2 e he hb)
        · rcases hids' b hb with h1 | ⟨h1, h2⟩
          · exact ⟨(hids b h1).1, fun k hk => (hids b h1).2 k (by simp only [List.mem_append, List.mem_cons] at hk ⊢; exact hk.imp_right .inr)⟩
          · have hi2 := hlt i hil
            refine ⟨by omega, fun k hk h3 => ?_⟩
            have : k ≠ i := fun e => hni (e ▸ hk)
            omega
      · refine ⟨fun e => by have := hl1 k hk; omega, fun x hx => ?_⟩
        obtain ⟨p, hp, h1⟩ := (sw_spec hsw ((hnth i).trans ho)).2 k (hl1 k hk)
        rw [hp] at hx
        cases hx
        rcases h1 with h1 | h1
        · exfalso
          have := isAnc_listed (ops := ops.toList) (C := fun i => listed.getD i false = true) 4 i h1 (fun o2 h2 e he hb => by
            rw [hnth, ho] at h2
            cases h2
            exact hall e he (by rw [binds_any]; exact hb)) (fun q hq o2 h2 e he hb => hcl q o2 (by rw [← hnth]; exact h2) hq e he hb)
          have hu := (hmem k).1 (by simp [hk])
          have hks : k < listed.size := by have := hlt k (by simp [hk]); omega
          simp only [Array.getD_eq_getD_getElem?, Array.getElem?_eq_getElem hks, Option.getD_some] at this hu
          rw [this] at hu
          cases hu
        · exact h1
      · refine hr.ok.freed b (hdead b k ?_ (by omega) (by omega))
        simp only [List.mem_append, List.mem_cons]
        rcases hk with hk | hk
        · exact .inl hk
        · exact .inr (.inl hk)
      · have := (hids b hb).2 k (by simp [hk])
        rw [hnb]
        exact this
theorem RelS.drew {w : World} {S : Stab} {ρ : Rho} {st : St} {a : Act} (h : RelS Γ w S ρ st a) : RelS Γ { w with drawn := w.drawn + 1 } S ρ st a := by
  have g : Goes w S ρ st.ar { w with drawn := w.drawn + 1 } S ρ st.ar := ⟨fun _ _ _ => rfl, fun _ _ h => h, fun _ h => h, fun _ cs _ h => ⟨⟨cs, h⟩, rfl⟩, fun _ _ _ _ f wr _ _ h => ⟨⟨f, wr, h⟩, rfl, fun _ _ cur fr hc => ⟨cur, fr, hc, rfl⟩⟩⟩
  refine ⟨h.ok.step g rfl rfl rfl (Nat.le_refl _) (fun b => .inl ⟨rfl, rfl, fun k _ => ⟨rfl, fun o ho => ho⟩⟩) h.ok.inj (fun b k hb => .inl ⟨b, hb⟩) (fun k _ _ => rfl) (fun k o ho => .inl ho) h.ok.freed, fun t => RelT.goes g _ _ (h.env t), h.nt, h.defers, h.np⟩
theorem drawn_ok (hm : P.follows .mixedOrders = true) (hc : CallOk P N G call) (hT : TTok P tt) (hcm : CallMono mv call) (hce : CallEnv call) (hsw : (std call loopP).sw = fun mv ops => swapOk mv ops = true) : Drawn P N G tt mv call := by
  intro Γ hNG id ops st K hd w S ρ a hr hi
  obtain ⟨h1, h2⟩ := hd
  rw [hsw] at h1
  have h3 := doL_of hce ops.toList 0 st (fun k => by simp) h2
  refine wp_region_any hm ?_
  refine any_of hc hNG hT hcm hce ops h1 (nb := st.nb) (K := fun s => K { s with nb := s.nb + 8 * lenN ops.toList }) (fun st' w' S' ρ' a' hk hr' hnb' hids' => ?_) ops.size (List.range' 0 ops.toList.length) (Array.replicate ops.size false) st _ S ρ a (by simp) (List.pairwise_lt_range') (fun i => ?_) (by simp) (fun i o ho hl => ?_) rfl hr.drew (fun b hb => ?_) h3
  · exact ⟨.normal, { st' with nb := st'.nb + 8 * lenN ops.toList }, S', ρ', trivial, ⟨hr'.ok, hr'.env, hr'.nt, hr'.defers, hr'.np⟩, fun b hb => by
      have := hids' b hb
      simp only [lenN_eq, Array.length_toList, hnb']
      exact this, rfl, hk⟩
  · simp only [List.mem_range'_1, Array.length_toList, Array.getD_eq_getD_getElem?, Array.getElem?_replicate]
    by_cases hlt : i < ops.size
    · simp [hlt]
    · simp [hlt]
  · exfalso
    simp only [Array.getD_eq_getD_getElem?, Array.getElem?_replicate] at hl
    split at hl <;> simp at hl
  · have := hi b hb
    exact ⟨by omega, fun i _ h => by omega⟩
end
end Go.Proofs.YtlpcphndgjibpaaDoor.Rx
/- Calls that are handed blocks to change. No program's text. No condition. -/
namespace Go.Proofs.YtlpcphndgjibpaaDoor.Rx
open Go
/-- The walk's context begins anew here. -/
def Ctx.anew (Γ : Ctx) {w : World} {S : Stab} {ρ : Rho} {ar : Ar} (h : Ok Γ w S ρ ar) : Ctx :=
  { w0 := w, S0 := S, ρ0 := ρ, F := fun k => ∃ b, ρ b = .at k, N := Γ.N, G := Γ.G, stable := Γ.stable, g0 := h.glob, n0 := Nat.le_trans Γ.n0 h.size, f0 := fun k ⟨b, hb⟩ => let o := h.own b k hb; ⟨o.1, o.2.1⟩, s0 := h.lt }
theorem Ok.anew {Γ : Ctx} {w : World} {S : Stab} {ρ : Rho} {ar : Ar} (h : Ok Γ w S ρ ar) : Ok (Γ.anew h) w S ρ ar :=
  ⟨h.blk, h.inj, fun b k hb => ⟨(h.own b k hb).1, (h.own b k hb).2.1, .inr ⟨b, hb⟩⟩, rfl, rfl, rfl, Nat.le_refl _, fun _ _ _ => rfl, fun _ _ _ => rfl, fun _ _ ho => ho, fun _ _ ho => .inl ho, h.lt, h.freed, fun _ hb => hb, fun _ _ _ => rfl, fun _ _ _ _ _ _ _ _ _ _ cur fr hc => ⟨cur, fr, hc, rfl⟩⟩
/-- The same, with no names promised. -/
def Ctx.loose (Γ : Ctx) : Ctx := { Γ with ρ0 := fun _ => .free }
theorem Ok.loose {Γ : Ctx} {w : World} {S : Stab} {ρ : Rho} {ar : Ar} (h : Ok Γ w S ρ ar) : Ok Γ.loose w S ρ ar :=
  ⟨h.blk, h.inj, h.own, h.os, h.tape, h.output, h.size, h.block, h.cells, h.sub, h.new, h.lt, h.freed, fun _ hb => absurd rfl hb, fun _ hb => absurd rfl hb, fun _ _ _ _ _ _ _ _ hb => by cases hb⟩
/-- Only these blocks. -/
def kl (σ D : List Nat) (ar : Ar) : Ar := fun b => bif memB σ b || memB D b then ar b else .dead
def frzD (ar : Ar) (D : List Nat) : Ar := fun b => bif memB D b then (match ar b with | .vec L e sz f _ st => .vec L e sz f false st | B => B) else ar b
def pos (σ : List Nat) (b : Nat) : Option Nat := match σ with
  | [] => none
  | x :: r => bif Nat.beq x b then some 0 else match pos r b with
    | some i => some (i + 1)
    | none => none
mutual
def mvC (τ : Nat → Nat) : CV → CV
  | .own b len => .own (τ b) len
  | .ptr b j => .ptr (τ b) j
  | .vptr b i j => .vptr (τ b) i j
  | .clo f cs => .clo f (mvCs τ cs)
  | x => x
def mvCs (τ : Nat → Nat) : List CV → List CV
  | [] => []
  | x :: r => mvC τ x :: mvCs τ r
end
mutual
def mvT (τ : Nat → Nat) : TV → TV
  | .c x => .c (mvC τ x)
  | .agg cs => .agg (mvCs τ cs)
  | .tup ts => .tup (mvTs τ ts)
def mvTs (τ : Nat → Nat) : List TV → List TV
  | [] => []
  | x :: r => mvT τ x :: mvTs τ r
end
def mvB (τ : Nat → Nat) : Blk → Blk
  | .box cs => .box (mvCs τ cs)
  | b => b
/-- A callee's name, as the caller has it. -/
def tau (σ : List Nat) (nb : Nat) (i : Nat) : Nat := match nth σ i with
  | some b => b
  | none => nb + (i - lenN σ)
def back (σ : List Nat) (nb : Nat) (R : List Blk) (ar : Ar) : Ar := fun b => match pos σ b with
  | some i => mvB (tau σ nb) (arOf R i)
  | none => bif Nat.ble nb b && Nat.blt b (nb + 8) then (match nth R (lenN σ + (b - nb)) with | some B => mvB (tau σ nb) B | none => ar b) else ar b
def okB : Blk → Blk → Prop
  | .dead, _ => False
  | _, .dead => True
  | .box _, .box _ => True
  | .vec L e sz _ _ st, .vec L' e' sz' _ _ st' => L = L' ∧ e = e' ∧ sz = sz' ∧ st = st'
  | _, _ => False
def okKs : List Blk → List Blk → Prop
  | [], _ => True
  | A :: r, B :: s => okB A B ∧ okKs r s
  | _ :: _, [] => False
/-- A call that is handed the blocks `σ`; the slices `D` are handed on as data. -/
def callG (P : Program) (N : Nat) (G : World → Prop) : CallT := fun f args st K =>
  ∃ (σ D : List Nat) (A R : List Blk) (args' : List TV) (res : TV), renB (σ.map some) st.nb 0 = true ∧ BsLe (σ.map some) (kl σ D st.ar) (σ.map some) A ∧ TsLe (σ.map some) (kl σ D st.ar) args args' ∧
    AC P N G f A args' R res ∧ Nat.ble R.length (σ.length + 8) = true ∧ okKs A R ∧ K (mvT (tau σ st.nb) res) { st with ar := back σ st.nb R (frzD st.ar D) }
theorem pos_some : ∀ {σ : List Nat} {b i : Nat}, pos σ b = some i → nth σ i = some b
  | x :: r, b, i, h => by
    simp only [pos] at h
    cases hb : Nat.beq x b with
    | true =>
      rw [hb] at h
      simp only [cond_true, Option.some.injEq] at h
      subst h
      simp only [nth, Nat.eq_of_beq_eq_true hb]
    | false =>
      rw [hb] at h
      simp only [cond_false] at h
      cases hr : pos r b with
      | none => rw [hr] at h; cases h
      | some k =>
        rw [hr] at h
        simp only [Option.some.injEq] at h
        subst h
        simp only [nth]
        exact pos_some hr
theorem pos_none : ∀ {σ : List Nat} {b i : Nat}, pos σ b = none → nth σ i ≠ some b
  | [], _, _, _ => by simp [nth]
  | x :: r, b, i, h => by
    simp only [pos] at h
    cases hb : Nat.beq x b with
    | true => rw [hb] at h; cases h
    | false =>
      rw [hb] at h
      simp only [cond_false] at h
      cases hr : pos r b with
      | some k => rw [hr] at h; cases h
      | none =>
        cases i with
        | zero => simp only [nth]; intro e; cases e; rw [Nat.beq_refl] at hb; cases hb
        | succ i => simp only [nth]; exact pos_none hr
theorem nth_map {α β : Type} (g : α → β) : ∀ (l : List α) (i : Nat), nth (l.map g) i = (nth l i).map g
  | [], _ => rfl
  | x :: r, 0 => rfl
  | x :: r, i + 1 => nth_map g r i
theorem okKs_at : ∀ {A R : List Blk} {i : Nat}, okKs A R → i < A.length → okB (arOf A i) (arOf R i) ∧ i < R.length
  | [], _, i, _, h => absurd h (Nat.not_lt_zero i)
  | _ :: _, [], _, h, _ => by simp [okKs] at h
  | A :: r, B :: s, 0, h, _ => by
    simp only [okKs] at h
    exact ⟨h.1, Nat.zero_lt_succ _⟩
  | A :: r, B :: s, i + 1, h, hi => by
    simp only [okKs] at h
    obtain ⟨h1, h2⟩ := okKs_at h.2 (i := i) (by simpa using hi)
    exact ⟨by simpa [arOf, nth] using h1, by simpa using h2⟩
section
variable {w w' : World} {S S' : Stab} {ρ ρ' ρ2 : Rho} {arR ar2 : Ar} {τ : Nat → Nat} {m : Nat}
mutual
theorem mvC_rel (hi : Ids ρ' m) (hp : ∀ b, b < m → ρ' b ≠ .free → ρ2 (τ b) = ρ' b) (ha : ∀ b, b < m → ar2 (τ b) = mvB τ (arR b)) : ∀ (x : CV) (u : Value), RelC w' S' ρ' arR x u → RelC w' S' ρ2 ar2 (mvC τ x) u
  | .d x, u, h => by simpa only [mvC, RelC] using h
  | .own b len, u, h => by
    simp only [RelC] at h
    simp only [mvC, RelC]
    obtain ⟨h1, h2, h3⟩ := h
    have hb := hi b h2
    rw [hp b hb h2, ha b hb]
    refine ⟨h1, h2, ?_⟩
    cases hx : arR b with
    | dead => exact trivial
    | box cs => exact trivial
    | vec L e sz f wr st => rw [hx] at h3; exact h3
  | .ptr b j, u, h => by
    simp only [RelC] at h
    simp only [mvC, RelC]
    obtain ⟨h1, h2, h3⟩ := h
    have hb := hi b h2
    rw [hp b hb h2, ha b hb]
    refine ⟨h1, h2, ?_⟩
    cases hx : arR b with
    | dead => exact trivial
    | box cs => rw [hx] at h3; exact h3
    | vec L e sz f wr st => exact trivial
  | .vptr b i j, u, h => by
    simp only [RelC] at h
    simp only [mvC, RelC]
    obtain ⟨h1, h2, h3⟩ := h
    have hb := hi b h2
    rw [hp b hb h2, ha b hb]
    refine ⟨h1, h2, ?_⟩
    cases hx : arR b with
    | dead => exact trivial
    | box cs => exact trivial
    | vec L e sz f wr st => rw [hx] at h3; exact h3
  | .iptr k f, u, h => by simpa only [mvC, RelC] using h
  | .clo f cs, u, h => by
    simp only [RelC] at h
    simp only [mvC, RelC]
    obtain ⟨vs, rfl, h⟩ := h
    exact ⟨vs, rfl, mvCs_rel hi hp ha cs vs h⟩
  | .junk, u, h => by simp only [mvC, RelC]
theorem mvCs_rel (hi : Ids ρ' m) (hp : ∀ b, b < m → ρ' b ≠ .free → ρ2 (τ b) = ρ' b) (ha : ∀ b, b < m → ar2 (τ b) = mvB τ (arR b)) : ∀ (xs : List CV) (us : List Value), RelCs w' S' ρ' arR xs us → RelCs w' S' ρ2 ar2 (mvCs τ xs) us
  | [], [], h => by simp only [mvCs, RelCs]
  | x :: r, u :: s, h => by
    simp only [RelCs] at h
    simp only [mvCs, RelCs]
    exact ⟨mvC_rel hi hp ha x u h.1, mvCs_rel hi hp ha r s h.2⟩
  | [], _ :: _, h => by simp [RelCs] at h
  | _ :: _, [], h => by simp [RelCs] at h
end
mutual
theorem mvT_rel (hi : Ids ρ' m) (hp : ∀ b, b < m → ρ' b ≠ .free → ρ2 (τ b) = ρ' b) (ha : ∀ b, b < m → ar2 (τ b) = mvB τ (arR b)) : ∀ (x : TV) (u : Value), RelT w' S' ρ' arR x u → RelT w' S' ρ2 ar2 (mvT τ x) u
  | .c x, u, h => by
    simp only [RelT] at h
    simp only [mvT, RelT]
    exact mvC_rel hi hp ha x u h
  | .agg cs, u, h => by
    simp only [RelT] at h
    simp only [mvT, RelT]
    obtain ⟨vs, rfl, h⟩ := h
    exact ⟨vs, rfl, mvCs_rel hi hp ha cs vs h⟩
  | .tup ts, u, h => by
    simp only [RelT] at h
    simp only [mvT, RelT]
    obtain ⟨vs, rfl, h⟩ := h
    exact ⟨vs, rfl, mvTs_rel hi hp ha ts vs h⟩
theorem mvTs_rel (hi : Ids ρ' m) (hp : ∀ b, b < m → ρ' b ≠ .free → ρ2 (τ b) = ρ' b) (ha : ∀ b, b < m → ar2 (τ b) = mvB τ (arR b)) : ∀ (xs : List TV) (us : List Value), RelTs w' S' ρ' arR xs us → RelTs w' S' ρ2 ar2 (mvTs τ xs) us
  | [], [], h => by simp only [mvTs, RelTs]
  | x :: r, u :: s, h => by
    simp only [RelTs] at h
    simp only [mvTs, RelTs]
    exact ⟨mvT_rel hi hp ha x u h.1, mvTs_rel hi hp ha r s h.2⟩
  | [], _ :: _, h => by simp [RelTs] at h
  | _ :: _, [], h => by simp [RelTs] at h
end
theorem mvB_rel {i : Nat} (hi : Ids ρ' m) (hp : ∀ b, b < m → ρ' b ≠ .free → ρ2 (τ b) = ρ' b) (ha : ∀ b, b < m → ar2 (τ b) = mvB τ (arR b)) (hlt : i < m) (hB : RelB w' S' ρ' arR i) : RelB w' S' ρ2 ar2 (τ i) := by
  unfold RelB at hB ⊢
  rw [ha i hlt]
  cases hx : arR i with
  | dead => trivial
  | box cs =>
    rw [hx] at hB
    obtain ⟨k, cur, t, fr, k1, k2, k3, k4, k5⟩ := hB
    simp only [mvB]
    exact ⟨k, cur, t, fr, by rw [hp i hlt (by rw [k1]; intro e; cases e)]; exact k1, k2, k3, mvCs_rel hi hp ha cs _ k4, k5⟩
  | vec L e sz f wr stt =>
    rw [hx] at hB
    simp only [mvB]
    dsimp only at hB
    cases hs : ρ' i with
    | free => rw [hs] at hB; exact hB.elim
    | virt => rw [hs] at hB; rw [hp i hlt (by rw [hs]; intro e; cases e), hs]; exact hB
    | «at» k => rw [hs] at hB; rw [hp i hlt (by rw [hs]; intro e; cases e), hs]; exact hB
end
def backR (σ : List Nat) (nb n : Nat) (ρ' ρ : Rho) : Rho := fun b => match pos σ b with
  | some i => ρ' i
  | none => if nb ≤ b ∧ b < nb + (n - σ.length) then ρ' (σ.length + (b - nb)) else ρ b
section
variable {σ : List Nat} {nb : Nat} {R : List Blk} {ar : Ar} {ρ ρ' : Rho}
theorem tau_lt {i b : Nat} (h : nth σ i = some b) : tau σ nb i = b := by unfold tau; rw [h]
theorem tau_ge {i : Nat} (h : σ.length ≤ i) : tau σ nb i = nb + (i - σ.length) := by
  unfold tau
  rw [nth_eq, List.getElem?_eq_none h, lenN_eq]
theorem nth_lt {α : Type} {l : List α} {i : Nat} (h : i < l.length) : ∃ x, nth l i = some x := ⟨l[i], by rw [nth_eq]; exact List.getElem?_eq_getElem h⟩
theorem lt_of_nth {α : Type} {l : List α} {i : Nat} {x : α} (h : nth l i = some x) : i < l.length := by rw [nth_eq] at h; exact (List.getElem?_eq_some_iff.1 h).1
theorem pos_at (hinj : ∀ i j b, nth σ i = some b → nth σ j = some b → i = j) {i b : Nat} (h : nth σ i = some b) : pos σ b = some i := by
  cases hp : pos σ b with
  | none => exact absurd h (pos_none hp)
  | some j => rw [hinj j i b (pos_some hp) h]
theorem pos_new (hlt : ∀ i b, nth σ i = some b → b < nb) {b : Nat} (h : nb ≤ b) : pos σ b = none := by
  cases hp : pos σ b with
  | none => rfl
  | some j => have := hlt j b (pos_some hp); omega
theorem back_tau (hinj : ∀ i j b, nth σ i = some b → nth σ j = some b → i = j) (hlt : ∀ i b, nth σ i = some b → b < nb) (hR : R.length ≤ σ.length + 8) {i : Nat} (hi : i < R.length) :
    back σ nb R ar (tau σ nb i) = mvB (tau σ nb) (arOf R i) ∧ backR σ nb R.length ρ' ρ (tau σ nb i) = ρ' i := by
  rcases Nat.lt_or_ge i σ.length with h | h
  · obtain ⟨b, hb⟩ := nth_lt h
    rw [tau_lt hb]
    unfold back backR
    rw [pos_at hinj hb]
    exact ⟨rfl, rfl⟩
  · rw [tau_ge h]
    unfold back backR
    rw [pos_new hlt (Nat.le_add_right _ _)]
    dsimp only
    have h1 : σ.length + (nb + (i - σ.length) - nb) = i := by omega
    rw [lenN_eq, h1]
    obtain ⟨B, hB⟩ := nth_lt hi
    constructor
    · have : (Nat.ble nb (nb + (i - σ.length)) && Nat.blt (nb + (i - σ.length)) (nb + 8)) = true := by simp; omega
      rw [this, hB]
      simp [arOf, hB]
    · rw [if_pos (by omega)]
theorem back_cover (hR : R.length ≤ σ.length + 8) (hA : σ.length ≤ R.length) (b : Nat) : (∃ i, i < R.length ∧ b = tau σ nb i) ∨ (pos σ b = none ∧ ¬ (nb ≤ b ∧ b < nb + (R.length - σ.length)) ∧ back σ nb R ar b = ar b ∧ backR σ nb R.length ρ' ρ b = ρ b) := by
  cases hp : pos σ b with
  | some i =>
    have h := pos_some hp
    have := lt_of_nth h
    exact .inl ⟨i, by omega, (tau_lt h).symm⟩
  | none =>
    by_cases hc : nb ≤ b ∧ b < nb + (R.length - σ.length)
    · refine .inl ⟨σ.length + (b - nb), by omega, ?_⟩
      rw [tau_ge (by omega)]; omega
    · refine .inr ⟨rfl, hc, ?_, ?_⟩
      · unfold back
        rw [hp]
        dsimp only
        cases hb : Nat.ble nb b && Nat.blt b (nb + 8) with
        | false => rfl
        | true =>
          simp only [Bool.and_eq_true, Nat.ble_eq] at hb
          have : nth R (lenN σ + (b - nb)) = none := by rw [nth_eq, lenN_eq, List.getElem?_eq_none (by omega)]
          rw [this]; rfl
      · unfold backR
        rw [hp]
        dsimp only
        rw [if_neg hc]
end
section
variable {P : Program} {w : World} {S : Stab} {ρ : Rho} {ar : Ar} {Γ : Ctx} {σ D : List Nat}
theorem kl_goes : Goes w S ρ ar w S ρ (kl σ D ar) := by
  refine ⟨fun _ _ _ => rfl, fun _ _ h => h, fun _ h => h, fun b cs hb hc => ?_, fun b L e sz f wr st hb hc => ?_⟩ <;> unfold kl at hc <;> cases hm : (memB σ b || memB D b) <;> rw [hm] at hc
  · cases hc
  · exact ⟨⟨cs, hc⟩, rfl⟩
  · cases hc
  · exact ⟨⟨f, wr, hc⟩, rfl, fun k _ cur fr h => ⟨cur, fr, h, rfl⟩⟩
theorem Ok.kl (h : Ok Γ w S ρ ar) : Ok Γ w S ρ (Rx.kl σ D ar) := by
  refine h.step kl_goes rfl rfl rfl (Nat.le_refl _) (fun b => ?_) h.inj (fun b k hb => .inl ⟨b, hb⟩) (fun _ _ _ => rfl) (fun _ _ ho => .inl ho) (fun b hb => ?_)
  · cases hm : (memB σ b || memB D b) with
    | true => exact .inl ⟨by simp [Rx.kl, hm], rfl, fun k _ => ⟨rfl, fun o ho => ho⟩⟩
    | false => exact .inr (by unfold RelB; simp [Rx.kl, hm])
  · unfold Rx.kl
    cases memB σ b || memB D b with
    | true => exact h.freed b hb
    | false => rfl
theorem memB_nth {l : List Nat} {b : Nat} : memB l b = true ↔ ∃ i, nth l i = some b := by
  rw [memB_iff, List.mem_iff_getElem?]
  simp only [nth_eq]
/-- The slices that are handed on are written no more. -/
theorem frzD_ok (h : Ok Γ w S ρ ar) : Ok Γ w (renS (σ.map some) ρ (kl σ D ar) S) ρ (frzD ar D) ∧ Goes w S ρ ar w (renS (σ.map some) ρ (kl σ D ar) S) ρ (frzD ar D) := by
  have g : Goes w S ρ ar w (renS (σ.map some) ρ (kl σ D ar) S) ρ (frzD ar D) := by
    refine ⟨fun _ _ _ => rfl, fun _ _ h => .inl h, fun _ h => h, fun b cs hb hc => ?_, fun b L e sz f wr st hb hc => ?_⟩ <;> unfold frzD at hc <;> cases hm : memB D b <;> rw [hm] at hc
    · exact ⟨⟨cs, hc⟩, rfl⟩
    · cases hx : ar b with
      | dead => rw [hx] at hc; cases hc
      | vec _ _ _ _ _ _ => rw [hx] at hc; cases hc
      | box ds => exact ⟨⟨ds, rfl⟩, rfl⟩
    · exact ⟨⟨f, wr, hc⟩, rfl, fun k _ cur fr h => ⟨cur, fr, h, rfl⟩⟩
    · cases hx : ar b with
      | dead => rw [hx] at hc; cases hc
      | box ds => rw [hx] at hc; cases hc
      | vec L' e' sz' f' wr' st' =>
        rw [hx] at hc
        simp only [cond_true, Blk.vec.injEq] at hc
        obtain ⟨rfl, rfl, rfl, rfl, rfl, rfl⟩ := hc
        exact ⟨⟨_, wr', rfl⟩, rfl, fun k _ cur fr h => ⟨cur, fr, h, rfl⟩⟩
  have newS : ∀ k o, renS (σ.map some) ρ (kl σ D ar) S k o → S k o ∨ ∃ b L e sz f wr st, ar b = .vec L e sz f wr st ∧ ρ b = .at k ∧ o < L * sz ∧ memB D b = true := by
    rintro k o (ho | ⟨b, L, e, sz, f, wr, st, h1, h2, h3, h4⟩)
    · exact .inl ho
    · unfold kl at h1
      cases hm : memB σ b with
      | true =>
        obtain ⟨i, hi⟩ := memB_nth.1 hm
        exact absurd (by rw [nth_map, hi]; rfl) (h4 i)
      | false =>
        rw [hm, Bool.false_or] at h1
        cases hd : memB D b with
        | false => rw [hd] at h1; cases h1
        | true => rw [hd] at h1; exact .inr ⟨b, L, e, sz, f, wr, st, h1, h2, h3, hd⟩
  refine ⟨h.step g rfl rfl rfl (Nat.le_refl _) (fun b => ?_) h.inj (fun b k hb => .inl ⟨b, hb⟩) (fun _ _ _ => rfl) (fun k o ho => ?_) (fun b hb => ?_), g⟩
  · cases hd : memB D b with
    | false =>
      refine .inl ⟨by simp [frzD, hd], rfl, fun k hk => ⟨rfl, fun o ho => ?_⟩⟩
      rcases newS k o ho with h1 | ⟨b', L, e, sz, f, wr, st, h1, h2, h3, h4⟩
      · exact h1
      · have := h.inj _ _ _ hk h2
        subst this
        rw [hd] at h4; cases h4
    | true =>
      cases hx : ar b with
      | dead => exact .inr (by unfold RelB; simp [frzD, hd, hx])
      | box cs =>
        refine .inl ⟨by simp [frzD, hd, hx], rfl, fun k hk => ⟨rfl, fun o ho => ?_⟩⟩
        rcases newS k o ho with h1 | ⟨b', L, e, sz, f, wr, st, h1, h2, h3, h4⟩
        · exact h1
        · have := h.inj _ _ _ hk h2
          subst this
          rw [hx] at h1; cases h1
      | vec L e sz f wr st =>
        refine .inr ?_
        have hB := h.blk b
        unfold RelB at hB ⊢
        rw [hx] at hB
        simp only [frzD, hd, hx, cond_true]
        dsimp only at hB ⊢
        cases hs : ρ b with
        | free => rw [hs] at hB; exact hB.elim
        | virt => rw [hs] at hB; exact hB
        | «at» k =>
          rw [hs] at hB
          obtain ⟨cap, cur, fr, k1, k2, k3, k4, k5, k6, k7, k8⟩ := hB
          refine ⟨cap, cur, fr, k1, k2, k3, k4, k5, k6, fun i hi j hj => ?_, fun o ho => ⟨trivial, ?_⟩⟩
          · obtain ⟨c, hc, hd⟩ := k7 i hi j hj
            exact ⟨c, hc, ren_mono _ _ hd⟩
          · rcases newS k o ho with h1 | ⟨b', L', e', sz', f', wr', st', h1, h2, h3, h4⟩
            · exact (k8 o h1).2
            · have := h.inj _ _ _ hs h2
              subst this
              rw [hx] at h1
              cases h1
              exact h3
  · rcases newS k o ho with h1 | ⟨b', L, e, sz, f, wr, st, h1, h2, h3, h4⟩
    · exact .inl h1
    · exact .inr (.inr ⟨b', h2⟩)
  · unfold frzD
    have := h.freed b hb
    cases memB D b with
    | false => exact this
    | true => simp only [this, cond_true]
theorem callG_ok (N : Nat) (G : World → Prop) (hN : Γ.N = N) (hG : Γ.G = G) {f : FuncId} {args : List TV} {st : St} {K : TV → St → Prop} (hk : callG P N G f args st K) {a : Act} {vs : List Value} (h : RelS Γ w S ρ st a) (hvs : RelTs w S ρ st.ar args vs)
    (hfree : ∀ b, st.nb ≤ b → b < st.nb + 8 → ρ b = .free) :
    (∃ fn, P.funcs[f]? = some fn ∧ fn.body.isSome = true ∧ (fn.name == "runtime.NumGoroutine") = false) ∧
    Calls P f vs.toArray w fun e w' => ∃ v res st' S' ρ', e = .returned v ∧ RelS Γ w' S' ρ' st' a ∧ RelT w' S' ρ' st'.ar res v ∧ K res st' ∧
      (∀ b, ρ' b ≠ .free → ρ b ≠ .free ∨ (st.nb ≤ b ∧ b < st.nb + 8)) := by
  obtain ⟨σ, D, A, R, args', res, h1, h2, h3, ⟨hfn, hac⟩, h8, hkk, hK⟩ := hk
  refine ⟨hfn, ?_⟩
  have hro := renOk_of h1 h2
  have hlenA : σ.length = A.length := by simpa using h2.len
  have hinj : ∀ i j b, nth σ i = some b → nth σ j = some b → i = j := fun i j b hi hj => hro.inj i j b (by rw [nth_map, hi]; rfl) (by rw [nth_map, hj]; rfl)
  have hlt : ∀ i b, nth σ i = some b → b < st.nb := fun i b hi => hro.lt i b (by rw [nth_map, hi]; rfl)
  have hR := Nat.le_of_ble_eq_true h8
  have hAR : σ.length ≤ R.length := by
    cases hl : σ.length with
    | zero => exact Nat.zero_le _
    | succ n => have := (okKs_at hkk (i := n) (by omega)).2; omega
  -- the callee's world
  have okK := h.ok.kl (σ := σ) (D := D)
  have ok1 := (okK.loose.ren hro (fun b hb => absurd rfl hb)).1
  have hids1 := (okK.loose.ren hro (fun b hb => absurd rfl hb)).2
  have hargs : RelTs w (renS (σ.map some) ρ (kl σ D st.ar) S) (renR (σ.map some) ρ) (arOf A) args' vs := TsLe.rel okK hro args args' vs h3 (RelTs.goes kl_goes _ _ hvs)
  have ok2 := ok1.anew
  have hcall := hac (Γ.loose.anew ok1) vs hN hG ok2 (by show Ids (renR (σ.map some) ρ) A.length; rw [← hlenA]; simpa using hids1) hargs
  refine Calls.mono hcall ?_
  rintro e w' ⟨v, S', ρ', rfl, ok', ids', rel'⟩
  obtain ⟨o1, g1⟩ := frzD_ok (σ := σ) (D := D) h.ok
  -- blocks that are handed over
  have alive : ∀ i b, nth σ i = some b → ρ b ≠ .free ∧ renR (σ.map some) ρ i = ρ b := fun i b hi => by
    have hsome : nth (σ.map some) i = some (some b) := by rw [nth_map, hi]; rfl
    have hb : ρ b ≠ .free := fun hf => by
      have hd := okK.freed b hf
      have hB := hro.blk i (by simpa using lt_of_nth hi) _ hsome
      have hk2 := (okKs_at hkk (i := i) (by have := lt_of_nth hi; omega)).1
      cases hx : arOf A i with
      | dead => rw [hx] at hk2; simp [okB] at hk2
      | box _ => rw [hx] at hB; simp [BLe, hd] at hB
      | vec _ _ _ _ _ _ => rw [hx] at hB; simp [BLe, hd] at hB
    exact ⟨hb, renR_some hsome hb⟩
  have usedM : ∀ i b, nth σ i = some b → ρ' i ≠ .free := fun i b hi => by
    refine ok'.used0 i ?_
    show renR (σ.map some) ρ i ≠ .free
    rw [(alive i b hi).2]; exact (alive i b hi).1
  have keepM : ∀ i b, nth σ i = some b → arOf R i ≠ .dead → ρ' i = ρ b := fun i b hi hd => by
    have : ρ' i = renR (σ.map some) ρ i := ok'.keep i (by
      show renR (σ.map some) ρ i ≠ .free
      rw [(alive i b hi).2]; exact (alive i b hi).1) hd
    rw [this, (alive i b hi).2]
  have mv : ∀ {i}, i < R.length → _ := fun {i} hi => back_tau (ar := frzD st.ar D) (ρ := ρ) (ρ' := ρ') hinj hlt hR hi
  have cover := back_cover (σ := σ) (nb := st.nb) (R := R) (ar := frzD st.ar D) (ρ := ρ) (ρ' := ρ') hR hAR
  have hF : ∀ k, (Γ.loose.anew ok1).F k → ∃ i b, nth σ i = some b ∧ ρ b = .at k := by
    rintro k ⟨i, hi⟩
    have hi' : renR (σ.map some) ρ i = .at k := hi
    unfold renR at hi'
    rw [nth_map] at hi'
    cases hn : nth σ i with
    | none => rw [hn] at hi'; cases hi'
    | some b =>
      rw [hn] at hi'
      refine ⟨i, b, hn, ?_⟩
      rw [← (alive i b hn).2]
      exact hi
  have hheap : ∀ k, k < w.heap.size → (∀ i b, nth σ i = some b → ρ b ≠ .at k) → w'.heap[k]? = w.heap[k]? := fun k hk hn => ok'.block k hk fun hf => by
    obtain ⟨i, b, h4, h5⟩ := hF k hf
    exact hn i b h4 h5
  have hS : ∀ k o, S' k o → renS (σ.map some) ρ (kl σ D st.ar) S k o ∨ (w.heap.size ≤ k ∧ k < w'.heap.size) ∨ ∃ i b, nth σ i = some b ∧ ρ b = .at k := fun k o ho => by
    rcases ok'.new k o ho with h4 | h4 | h4
    · exact .inl h4
    · exact .inr (.inl ⟨h4, ok'.lt k o ho⟩)
    · exact .inr (.inr (hF k h4))
  have other : ∀ b k, pos σ b = none → ρ b = .at k → ∀ i b', nth σ i = some b' → ρ b' ≠ .at k := fun b k hp hb i b' hi hb' => by
    have := h.ok.inj _ _ _ hb hb'
    subst this
    exact pos_none hp hi
  have hown' : ∀ i k, ρ' i = .at k → k < w'.heap.size ∧ (w.heap.size ≤ k ∨ ∃ i b, nth σ i = some b ∧ ρ b = .at k) := fun i k hi => by
    obtain ⟨_, h4, h5⟩ := ok'.own i k hi
    exact ⟨h4, h5.imp_right (hF k)⟩
  have free_new : ∀ i, σ.length ≤ i → i < R.length → ρ (tau σ st.nb i) = .free := fun i h4 h5 => by
    rw [tau_ge h4]; exact hfree _ (by omega) (by omega)
  have frz_kind : ∀ b, (∀ cs, st.ar b = .box cs → frzD st.ar D b = .box cs) ∧ (∀ L e sz f wr st2, st.ar b = .vec L e sz f wr st2 → ∃ wr', frzD st.ar D b = .vec L e sz f wr' st2) := fun b => by
    unfold frzD
    refine ⟨fun cs hx => ?_, fun L e sz f wr st2 hx => ?_⟩ <;> cases memB D b <;> simp [hx]
  -- what the caller had at a block handed over
  have same : ∀ i b, nth σ i = some b → (∀ cs, arOf R i = .box cs → ∃ cs0, frzD st.ar D b = .box cs0) ∧ (∀ L e sz g wr st2, arOf R i = .vec L e sz g wr st2 → ∃ g0 wr0, frzD st.ar D b = .vec L e sz g0 wr0 st2 ∧ arOf A i ≠ .dead ∧ ∃ g1 wr1, arOf A i = .vec L e sz g1 wr1 st2) := fun i b hi => by
    have hsome : nth (σ.map some) i = some (some b) := by rw [nth_map, hi]; rfl
    have hB := hro.blk i (by simpa using lt_of_nth hi) _ hsome
    have hk2 := (okKs_at hkk (i := i) (by have := lt_of_nth hi; omega)).1
    have hkl : kl σ D st.ar b = st.ar b := by unfold kl; rw [memB_nth.2 ⟨i, hi⟩]; rfl
    refine ⟨fun cs hx => ?_, fun L e sz g wr st2 hx => ?_⟩
    · rw [hx] at hk2
      cases hA : arOf A i with
      | dead => rw [hA] at hk2; simp [okB] at hk2
      | vec _ _ _ _ _ _ => rw [hA] at hk2; simp [okB] at hk2
      | box ds =>
        rw [hA] at hB
        simp only [BLe, hkl] at hB
        cases hy : st.ar b with
        | dead => rw [hy] at hB; exact hB.elim
        | vec _ _ _ _ _ _ => rw [hy] at hB; exact hB.elim
        | box cs0 => exact ⟨cs0, (frz_kind b).1 cs0 hy⟩
    · rw [hx] at hk2
      cases hA : arOf A i with
      | dead => rw [hA] at hk2; simp [okB] at hk2
      | box _ => rw [hA] at hk2; simp [okB] at hk2
      | vec L1 e1 sz1 g1 wr1 st1 =>
        rw [hA] at hB hk2
        simp only [okB] at hk2
        obtain ⟨rfl, rfl, rfl, rfl⟩ := hk2
        simp only [BLe, hkl] at hB
        cases hy : st.ar b with
        | dead => rw [hy] at hB; exact hB.elim
        | box _ => rw [hy] at hB; exact hB.elim
        | vec L0 e0 sz0 g0 wr0 st0 =>
          rw [hy] at hB
          obtain ⟨rfl, rfl, rfl, rfl, _, _⟩ := hB
          obtain ⟨wr', h5⟩ := (frz_kind b).2 _ _ _ _ _ _ hy
          exact ⟨g0, wr', h5, (fun e => by cases e), g1, wr1, rfl⟩
  have g2 : Goes w (renS (σ.map some) ρ (kl σ D st.ar) S) ρ (frzD st.ar D) w' S' (backR σ st.nb R.length ρ' ρ) (back σ st.nb R (frzD st.ar D)) := by
    refine ⟨fun k o ho => ok'.cells k o ho, fun k o ho => ok'.sub k o ho, fun b hb => ?_, fun b cs hb hcs => ?_, fun b L e sz g wr st2 hb hcs => ?_⟩
    · rcases cover b with ⟨i, hi, rfl⟩ | ⟨_, _, _, h5⟩
      · rw [(mv hi).2]
        rcases Nat.lt_or_ge i σ.length with h6 | h6
        · obtain ⟨b, hib⟩ := nth_lt h6
          exact usedM i b hib
        · exact absurd (free_new i h6 hi) hb
      · rw [h5]; exact hb
    · rcases cover b with ⟨i, hi, rfl⟩ | ⟨_, _, h4, h5⟩
      · rcases Nat.lt_or_ge i σ.length with h6 | h6
        · obtain ⟨b, hib⟩ := nth_lt h6
          rw [(mv hi).1] at hcs
          rw [(mv hi).2, tau_lt hib]
          cases hx : arOf R i with
          | dead => rw [hx] at hcs; cases hcs
          | vec _ _ _ _ _ _ => rw [hx] at hcs; cases hcs
          | box ds => exact ⟨(same i b hib).1 ds hx, keepM i b hib (by rw [hx]; intro e; cases e)⟩
        · exact absurd (free_new i h6 hi) hb
      · rw [h4] at hcs; rw [h5]; exact ⟨⟨cs, hcs⟩, rfl⟩
    · rcases cover b with ⟨i, hi, rfl⟩ | ⟨hp, _, h4, h5⟩
      · rcases Nat.lt_or_ge i σ.length with h6 | h6
        · obtain ⟨b, hib⟩ := nth_lt h6
          rw [(mv hi).1] at hcs
          rw [(mv hi).2, tau_lt hib]
          cases hx : arOf R i with
          | dead => rw [hx] at hcs; cases hcs
          | box _ => rw [hx] at hcs; cases hcs
          | vec L1 e1 sz1 g1 wr1 st1 =>
            rw [hx] at hcs
            simp only [mvB, Blk.vec.injEq] at hcs
            obtain ⟨rfl, rfl, rfl, rfl, rfl, rfl⟩ := hcs
            obtain ⟨g0, wr0, h7, h8, g2, wr2, h9⟩ := (same i b hib).2 _ _ _ _ _ _ hx
            refine ⟨⟨g0, wr0, h7⟩, keepM i b hib (by rw [hx]; intro e; cases e), fun k hk cur fr hc => ?_⟩
            exact ok'.vsz i k _ _ _ _ _ _ (by show renR (σ.map some) ρ i = .at k; rw [(alive i b hib).2]; exact hk) hx cur fr hc
        · exact absurd (free_new i h6 hi) hb
      · rw [h4] at hcs
        refine ⟨⟨g, wr, hcs⟩, h5, fun k hk cur fr hc => ⟨cur, fr, ?_, rfl⟩⟩
        rw [hheap k (o1.own b k hk).2.1 (other b k hp hk)]; exact hc
  have relB : ∀ i, i < R.length → RelB w' S' (backR σ st.nb R.length ρ' ρ) (back σ st.nb R (frzD st.ar D)) (tau σ st.nb i) := fun i hi =>
    mvB_rel ids' (fun b hb _ => (mv hb).2) (fun b hb => (mv hb).1) hi (ok'.blk i)
  have o2 : Ok Γ w' S' (backR σ st.nb R.length ρ' ρ) (back σ st.nb R (frzD st.ar D)) := by
    refine o1.step g2 ok'.os ok'.tape ok'.output ok'.size (fun b => ?_) (fun b b' k hb hb' => ?_) (fun b k hb => ?_) (fun k hk hn => hheap k hk fun i b _ => hn b) (fun k o ho => ?_) (fun b hb => ?_)
    · rcases cover b with ⟨i, hi, rfl⟩ | ⟨hp, _, h4, h5⟩
      · exact .inr (relB i hi)
      · refine .inl ⟨h4, h5, fun k hk => ⟨hheap k (o1.own b k hk).2.1 (other b k hp hk), fun o ho => ?_⟩⟩
        rcases hS k o ho with h6 | h6 | ⟨i, b', h6, h7⟩
        · exact h6
        · have := (o1.own b k hk).2.1; omega
        · exact absurd h7 (other b k hp hk i b' h6)
    · rcases cover b with ⟨i, hi, rfl⟩ | ⟨hp, _, h4, h5⟩ <;> rcases cover b' with ⟨j, hj, rfl⟩ | ⟨hp', _, h4', h5'⟩
      · rw [(mv hi).2] at hb
        rw [(mv hj).2] at hb'
        rw [ok'.inj i j k hb hb']
      · rw [(mv hi).2] at hb
        rw [h5'] at hb'
        rcases (hown' i k hb).2 with h6 | ⟨q, b2, h6, h7⟩
        · have := (o1.own _ k hb').2.1; omega
        · exact absurd h7 (other b' k hp' hb' q b2 h6)
      · rw [(mv hj).2] at hb'
        rw [h5] at hb
        rcases (hown' j k hb').2 with h6 | ⟨q, b2, h6, h7⟩
        · have := (o1.own _ k hb).2.1; omega
        · exact absurd h7 (other b k hp hb q b2 h6)
      · rw [h5] at hb; rw [h5'] at hb'; exact o1.inj _ _ _ hb hb'
    · rcases cover b with ⟨i, hi, rfl⟩ | ⟨hp, _, h4, h5⟩
      · rw [(mv hi).2] at hb
        obtain ⟨h6, h7⟩ := hown' i k hb
        rcases h7 with h7 | ⟨_, b2, _, h7⟩
        · exact .inr ⟨h7, h6⟩
        · exact .inl ⟨b2, h7⟩
      · rw [h5] at hb; exact .inl ⟨b, hb⟩
    · rcases hS k o ho with h6 | h6 | ⟨i, b', h6, h7⟩
      · exact .inl h6
      · exact .inr (.inl h6)
      · exact .inr (.inr ⟨b', h7⟩)
    · rcases cover b with ⟨i, hi, rfl⟩ | ⟨hp, _, h4, h5⟩
      · rw [(mv hi).2] at hb
        rw [(mv hi).1, ok'.freed i hb]; rfl
      · rw [h5] at hb; rw [h4]; exact o1.freed b hb
  refine ⟨v, _, { st with ar := back σ st.nb R (frzD st.ar D) }, S', _, rfl, ⟨o2, fun t => RelT.goes (g1.trans g2) _ _ (h.env t), h.nt, h.defers, h.np⟩, mvT_rel ids' (fun b hb _ => (mv hb).2) (fun b hb => (mv hb).1) res v rel', hK, fun b hb => ?_⟩
  rcases cover b with ⟨i, hi, rfl⟩ | ⟨hp, _, h4, h5⟩
  · rcases Nat.lt_or_ge i σ.length with h6 | h6
    · obtain ⟨b, hib⟩ := nth_lt h6
      rw [tau_lt hib]
      exact .inl (alive i b hib).1
    · rw [tau_ge h6]; exact .inr ⟨by omega, by omega⟩
  · rw [h5] at hb; exact .inl hb
theorem callG_env (P : Program) (N : Nat) (G : World → Prop) : CallEnv (callG P N G) := by
  rintro f args st K ⟨σ, D, A, R, args', res, h1, h2, h3, h4, h8, hkk, hK⟩
  refine ⟨_, _, hK, fun b hb => ?_, fun st2 K2 hnb har hk2 => ⟨σ, D, A, R, args', res, by rw [hnb]; exact h1, by rw [har]; exact h2, by rw [har]; exact h3, h4, h8, hkk, by rw [hnb, har]; simp only [hnb] at hk2 ⊢; exact hk2⟩⟩
  have hro := renOk_of h1 h2
  have hlenA : σ.length = A.length := by simpa using h2.len
  unfold back
  cases hp : pos σ b with
  | some i =>
    have hi := pos_some hp
    have hsome : nth (σ.map some) i = some (some b) := by rw [nth_map, hi]; rfl
    have hB := hro.blk i (by simpa using lt_of_nth hi) _ hsome
    have hk2 := (okKs_at hkk (i := i) (by have := lt_of_nth hi; omega)).1
    have hd : kl σ D st.ar b = .dead := by unfold kl; rw [memB_nth.2 ⟨i, hi⟩]; exact hb
    cases hx : arOf A i with
    | dead => rw [hx] at hk2; simp [okB] at hk2
    | box _ => rw [hx] at hB; simp [BLe, hd] at hB
    | vec _ _ _ _ _ _ => rw [hx] at hB; simp [BLe, hd] at hB
  | none =>
    have hf : frzD st.ar D b = .dead := by unfold frzD; cases memB D b <;> simp [hb]
    dsimp only
    cases hc : Nat.ble st.nb b && Nat.blt b (st.nb + 8) with
    | false => exact .inl hf
    | true => right; simpa using hc
/-- Calls: those of the list are handed blocks. -/
def callM (P : Program) (N : Nat) (G : World → Prop) (mv : List Nat) : CallT := fun f args st K => bif memB mv f then callG P N G f args st K else callP P N G f args st K
theorem callM_ok (P : Program) (N : Nat) (G : World → Prop) (mv : List Nat) : CallOk P N G (callM P N G mv) := by
  intro f args st K hk Γ w S ρ a vs hNG h hvs hfree
  unfold callM at hk
  cases hm : memB mv f with
  | true => rw [hm] at hk; exact callG_ok N G hNG.1 hNG.2 hk h hvs hfree
  | false => rw [hm] at hk; exact callP_ok N G hNG.1 hNG.2 hk h hvs hfree
theorem callM_env (P : Program) (N : Nat) (G : World → Prop) (mv : List Nat) : CallEnv (callM P N G mv) := by
  intro f args st K hk
  unfold callM at hk ⊢
  cases hm : memB mv f with
  | true =>
    rw [hm] at hk
    obtain ⟨v, ar', h1, h2, h3⟩ := callG_env P N G f args st K hk
    exact ⟨v, ar', h1, h2, fun st2 K2 => h3 st2 K2⟩
  | false =>
    rw [hm] at hk
    obtain ⟨v, ar', h1, h2, h3⟩ := callP_env P N G f args st K hk
    exact ⟨v, ar', h1, h2, fun st2 K2 => h3 st2 K2⟩
theorem callM_mono (P : Program) (N : Nat) (G : World → Prop) (mv : List Nat) : CallMono mv (callM P N G mv) := by
  intro f args st K hm hk
  unfold callM at hk ⊢
  rw [hm] at hk
  simp only [hm]
  exact callP_mono P N G mv f args st K hm hk
end
end Go.Proofs.YtlpcphndgjibpaaDoor.Rx
/- A table of types, and the walk's own words put together. No program's text. No condition. -/
namespace Go.Proofs.YtlpcphndgjibpaaDoor.Rx
open Go
theorem TIok.of {P : Program} {t : Nat} {ti : TI} (d : TypeDesc) (hd : P.underlying t = some d) (hk : kindD ti.kind d) (z : Value) (hi : (P.info? t).map (fun i => (i.zero, i.size, i.bytes)) = some (some z, ti.size, ti.bytes)) (hz : z.cells.toList = ti.zero)
    (hc : ti.zero.all isCell = true) (hl : ti.zero.length = ti.size) (h1 : (ti.kind.agg || Nat.beq ti.size 1) = true)
    (ha : ∀ n e, ti.kind = .arr n e → ∃ z' : Value, (P.info? e).map (fun i => i.zero) = some (some z') ∧ ti.zero = (List.replicate n z'.cells.toList).flatten ∧ n ≤ maxLen)
    (he : ti.eqs = true → P.stoodInHeld t = false ∧ P.eqGuardType P.depth t = false ∧ ∃ fields : Array Field, P.underlying t = some (.struct fields) ∧ ∀ f ∈ fields, (f.name == "_") = false) : TIok P t ti := by
  refine ⟨⟨d, hd, hk⟩, ?_, fun v hv => List.all_eq_true.1 hc v hv, hl, fun hag => ?_, fun n e hn => ?_, he⟩
  · cases hq : P.info? t with
    | none => rw [hq] at hi; cases hi
    | some i =>
      rw [hq] at hi
      simp only [Option.map_some, Option.some.injEq, Prod.mk.injEq] at hi
      exact ⟨i, z, rfl, hi.1, hi.2.1, hi.2.2, hz⟩
  · rw [hag, Bool.false_or] at h1
    exact Nat.eq_of_beq_eq_true h1
  · obtain ⟨z', h2, h3, h4⟩ := ha n e hn
    cases hq : P.info? e with
    | none => rw [hq] at h2; cases h2
    | some i =>
      rw [hq] at h2
      simp only [Option.map_some, Option.some.injEq] at h2
      exact ⟨i, z', rfl, h2, h3, h4⟩
theorem ttok_of {P : Program} : ∀ {l : List (Nat × TI)}, (∀ p ∈ l, TIok P p.1 p.2) → TTok P (ttOf l)
  | [], _ => fun t ti h => by simp [ttOf] at h
  | (k, x) :: r, h => fun t ti ht => by
    simp only [ttOf] at ht
    cases hk : Nat.beq t k with
    | true =>
      rw [hk] at ht
      have := Nat.eq_of_beq_eq_true hk
      subst this
      simp only [Option.some.injEq] at ht
      subst ht
      exact h (t, x) List.mem_cons_self
    | false =>
      rw [hk] at ht
      exact ttok_of (fun p hp => h p (List.mem_cons_of_mem _ hp)) t ti ht
/-- The primitive functions over a program; those of the list are handed blocks. -/
def stdP (P : Program) (N : Nat) (G : World → Prop) (mv : List Nat) : Pr := std (callM P N G mv) loopP
theorem AC.mk {P : Program} {N : Nat} {G : World → Prop} {tt : TT} (mv : List Nat) (hm : P.follows .mixedOrders = true) (hT : TTok P tt) {f : FuncId} {fn : Func} {c : Code} (hf : P.funcs[f]? = some fn) (hb : fn.body = some c) (hn : (fn.name == "runtime.NumGoroutine") = false)
    {A : List Blk} {args : List TV} {R : List Blk} {res : TV} (hnt : Nat.ble args.length fn.ntmps = true)
    (h : exec (stdP P N G mv) tt mv c ⟨envA args, arOf A, A.length, fn.ntmps, A.length⟩ (finK (stdP P N G mv) tt fn.results.toList R res)) : AC P N G f A args R res :=
  AC.intro (callM_ok P N G mv) hT (drawn_ok hm (callM_ok P N G mv) hT (callM_mono P N G mv) (callM_env P N G mv) rfl) hf hb hn hnt h
section
variable {P : Program} {N : Nat} {G : World → Prop} {mv : List Nat} {θ : Pr}
/-- A loop: an invariant told by states, and a measure that falls. -/
theorem loop_rule (hθ : stdP P N G mv = θ) {ι : Type} (m : ι → Nat) (s : ι → St) (i0 : ι) {body : St → (Ex → St → Prop) → Prop} {st : St} {K : Ex → St → Prop} (h0 : Sub st (s i0))
    (h : ∀ (i : ι) (Q : St → Prop), (∀ (j : ι) (s' : St), m j < m i → Sub s' (s j) → Q s') → body (s i) (fun e s' => match e with
      | .normal => Q s'
      | .exit id => K (.exit id) s'
      | .ret => K .ret s')) : θ.loop body st K := by
  subst hθ
  intro X hX
  refine ⟨s i0, h0, ?_⟩
  have key : ∀ (n : Nat) (i : ι), m i ≤ n → X (s i) := by
    intro n
    induction n with
    | zero => exact fun i hi => hX _ (h i _ fun j s' hj _ => by omega)
    | succ n ih => exact fun i hi => hX _ (h i _ fun j s' hj hs => ⟨s j, hs, ih j (by omega)⟩)
  exact key _ i0 (Nat.le_refl _)
/-- A call that is handed data alone. -/
theorem call_rule (hθ : stdP P N G mv = θ) {f : FuncId} {args args' ds : List TV} {st : St} {K : TV → St → Prop} {ar' : Ar} {R : List Blk} {res : TV} (hf : memB mv f = false) (hac : AC P N G f [] args' R res) (hd : dvTs st.ar args = some (ds, ar')) (ht : DTs ds args') (hR : Nat.ble R.length 8 = true)
    (hk : K (shT st.nb res) { st with ar := placeL ar' st.nb 0 R }) : θ.call f args st K := by
  subst hθ
  show callM P N G mv f args st K
  unfold callM
  rw [hf]
  exact ⟨args', ds, ar', R, res, hd, ht, hac, hR, hk⟩
/-- A call that is handed blocks. -/
theorem callG_rule (hθ : stdP P N G mv = θ) {f : FuncId} {args args' : List TV} {st : St} {K : TV → St → Prop} (σ D : List Nat) {A R : List Blk} {res : TV} (hf : memB mv f = true) (hac : AC P N G f A args' R res) (h1 : renB (σ.map some) st.nb 0 = true) (h2 : BsLe (σ.map some) (kl σ D st.ar) (σ.map some) A)
    (h3 : TsLe (σ.map some) (kl σ D st.ar) args args') (h4 : Nat.ble R.length (σ.length + 8) = true) (h5 : okKs A R) (hk : K (mvT (tau σ st.nb) res) { st with ar := back σ st.nb R (frzD st.ar D) }) : θ.call f args st K := by
  subst hθ
  show callM P N G mv f args st K
  unfold callM
  rw [hf]
  exact ⟨σ, D, A, R, args', res, h1, h2, h3, hac, h4, h5, hk⟩
end
end Go.Proofs.YtlpcphndgjibpaaDoor.Rx
