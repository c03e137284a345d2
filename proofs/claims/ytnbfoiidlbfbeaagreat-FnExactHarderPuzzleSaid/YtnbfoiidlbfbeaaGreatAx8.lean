/- Telling a state anew: what is new is frozen and dropped; how a function leaves. -/
import Derived.Test.YtnbfoiidlbfbeaaGreatAx7
set_option linter.unusedVariables false
set_option linter.unusedSimpArgs false
namespace Go.Ax
open Go.RowKit (Below)
open Go.Proofs (Enters enters_of)

theorem Known.lt {M : List AO} {o g : Nat} (k : Known M o g) : o < M.length := by
  obtain ⟨ob, ho, _⟩ := k
  exact (List.getElem?_eq_some_iff.1 ho).1
theorem R.cl {c : Ctx} {M : List AO} {h : Array Obj} {a : AV} {v : Value} (r : R c M h a v) : Cl M.length a := by
  induction r with
  | any v => exact .any
  | bool b => exact .bool b
  | int k n => exact .int k n
  | str s => exact .str s
  | nilp => exact .nilp
  | nili => exact .nili
  | nilf => exact .nilf
  | nils => exact .nils
  | ifc t v => exact .ifc
  | ptr o off g v hk h1 hv => exact .ptr o off g hk.lt
  | fp cs B off f cur ty fr0 hp hb hf hr ih => exact .fp cs ih
  | sl k o off len g v hk h1 hv => exact .sl k o off len g hk.lt
  | fz0 k A cap => exact .fz k [] (fun i a hi => by simp [flat] at hi)
  | fz k xs B off cap f cur ty fr0 hp hb hl hk hf hr ih => exact .fz k xs ih
  | fn f caps arr fv hs hf hr ih => exact .fn f caps ih
  | agg cs arr fv hs hf hr ih => exact .agg cs ih
  | tup cs arr fv hs hf hr ih => exact .tup cs ih
/-- Memory that names nothing beyond itself. -/
def ClM (M : List AO) : Prop := ∀ (o : Nat) (cs : List AV), M[o]? = some (.mem cs) → ∀ (i : Nat) (a : AV), cs[i]? = some a → Cl M.length a
theorem Sim.cl {c : Ctx} {M : List AO} {h : Array Obj} (s : Sim c M h) : ClM M := by
  intro o cs ho i a hi
  obtain ⟨cur, ty, hb, hs, hl, hc⟩ := s.live o cs ho
  obtain ⟨u, hu, hr⟩ := hc i a hi
  exact hr.cl

/-- How a value of M may be told where all objects from n on are frozen and gone. -/
inductive Tell (M : List AO) (n : Nat) : AV → AV → Prop
  | any (a : AV) : Tell M n a .any
  | same (a : AV) (h : Cl n a) : Tell M n a a
  | nil (k : Nat) : Tell M n .nils (.fz k [])
  | row (k o off len g : Nat) (cs : List AV) (xs : List AV) (ho : M[o]? = some (.mem cs)) (hn : n ≤ o) (hg : cs.length = g) (hx : xs.length = len) (hk : ∀ x ∈ xs, x.cells.length = k)
      (f : Nat → AV) (hf : ∀ (i : Nat) (b : AV), (flat xs)[i]? = some b → cs[off + i]? = some (f i)) (h : ∀ (i : Nat) (b : AV), (flat xs)[i]? = some b → Tell M n (f i) b) : Tell M n (.sl k o off len g) (.fz k xs)
  | fp (o off g : Nat) (cs xs : List AV) (ho : M[o]? = some (.mem cs)) (hn : n ≤ o) (hg : cs.length = g)
      (f : Nat → AV) (hf : ∀ (i : Nat) (b : AV), xs[i]? = some b → cs[off + i]? = some (f i)) (h : ∀ (i : Nat) (b : AV), xs[i]? = some b → Tell M n (f i) b) : Tell M n (.ptr o off g) (.fp xs)
  | fz (k : Nat) (xs ys : List AV) (hl : xs.length = ys.length) (hf : (flat xs).length = (flat ys).length) (hk : ∀ x ∈ ys, x.cells.length = k) (f : Nat → AV) (hff : ∀ (i : Nat) (b : AV), (flat ys)[i]? = some b → (flat xs)[i]? = some (f i)) (h : ∀ (i : Nat) (b : AV), (flat ys)[i]? = some b → Tell M n (f i) b) : Tell M n (.fz k xs) (.fz k ys)
  | agg (xs ys : List AV) (hl : xs.length = ys.length) (f : Nat → AV) (hff : ∀ (i : Nat) (b : AV), ys[i]? = some b → xs[i]? = some (f i)) (h : ∀ (i : Nat) (b : AV), ys[i]? = some b → Tell M n (f i) b) : Tell M n (.agg xs) (.agg ys)
  | tup (xs ys : List AV) (hl : xs.length = ys.length) (f : Nat → AV) (hff : ∀ (i : Nat) (b : AV), ys[i]? = some b → xs[i]? = some (f i)) (h : ∀ (i : Nat) (b : AV), ys[i]? = some b → Tell M n (f i) b) : Tell M n (.tup xs) (.tup ys)
  | fn (g : FuncId) (xs ys : List AV) (hl : xs.length = ys.length) (f : Nat → AV) (hff : ∀ (i : Nat) (b : AV), ys[i]? = some b → xs[i]? = some (f i)) (h : ∀ (i : Nat) (b : AV), ys[i]? = some b → Tell M n (f i) b) : Tell M n (.fn g xs) (.fn g ys)

theorem R.cut {c c2 : Ctx} {M0 J : List AO} {h : Array Obj} (hc : ∀ o, o < M0.length → c2.σ o = c.σ o ∧ c2.cap o = c.cap o) (hp : ∀ b, c.φ b → c2.φ b) {a : AV} {v : Value} (r : R c (M0 ++ J) h a v) (ha : Cl M0.length a) : R c2 M0 h a v := by
  have at_ : ∀ {o : Nat}, o < M0.length → (M0 ++ J)[o]? = M0[o]? := fun ho => List.getElem?_append_left ho
  induction r with
  | any v => exact .any v
  | bool b => exact .bool b
  | int k n => exact .int k n
  | str s => exact .str s
  | nilp => exact .nilp
  | nili => exact .nili
  | nilf => exact .nilf
  | nils => exact .nils
  | ifc t v => exact .ifc t v
  | ptr o off g v hk h1 hv =>
    cases ha with
    | ptr _ _ _ hlt =>
      obtain ⟨ob, ho, hg⟩ := hk
      refine .ptr o off g v ⟨ob, by rw [← at_ hlt]; exact ho, hg⟩ h1 fun hcur => ?_
      obtain ⟨cs, hcs, hl⟩ := hcur
      rw [(hc o hlt).1]
      exact hv ⟨cs, by rw [at_ hlt]; exact hcs, hl⟩
  | fp cs B off f cur ty fr0 hpb hb hf hr ih =>
    cases ha with
    | fp _ hcl => exact .fp cs B off f cur ty fr0 (hp B hpb) hb hf fun i a hi => ih i a hi (hcl i a hi)
  | sl k o off len g v hk h1 hv =>
    cases ha with
    | sl _ _ _ _ _ hlt =>
      obtain ⟨ob, ho, hg⟩ := hk
      refine .sl k o off len g v ⟨ob, by rw [← at_ hlt]; exact ho, hg⟩ h1 fun hcur => ?_
      obtain ⟨cs, hcs, hl⟩ := hcur
      rw [(hc o hlt).1, (hc o hlt).2]
      exact hv ⟨cs, by rw [at_ hlt]; exact hcs, hl⟩
  | fz0 k A cap => exact .fz0 k A cap
  | fz k xs B off cap f cur ty fr0 hpb hb hl hk hf hr ih =>
    cases ha with
    | fz _ _ hcl => exact .fz k xs B off cap f cur ty fr0 (hp B hpb) hb hl hk hf fun i a hi => ih i a hi (hcl i a hi)
  | fn f caps arr fv hs hf hr ih =>
    cases ha with
    | fn _ _ hcl => exact .fn f caps arr fv hs hf fun i a hi => ih i a hi (hcl i a hi)
  | agg cs arr fv hs hf hr ih =>
    cases ha with
    | agg _ hcl => exact .agg cs arr fv hs hf fun i a hi => ih i a hi (hcl i a hi)
  | tup cs arr fv hs hf hr ih =>
    cases ha with
    | tup _ hcl => exact .tup cs arr fv hs hf fun i a hi => ih i a hi (hcl i a hi)

/-- All objects behind M0 are frozen. -/
def frozenCtx (c : Ctx) (M : List AO) (n : Nat) : Ctx := { c with φ := fun b => c.φ b ∨ ∃ o cs, n ≤ o ∧ M[o]? = some (.mem cs) ∧ b = c.σ o }
theorem R.tell {c : Ctx} {M0 J : List AO} {h : Array Obj} (s : Sim c (M0 ++ J) h) {a b : AV} (t : Tell (M0 ++ J) M0.length a b) : ∀ {v : Value}, R c (M0 ++ J) h a v → R (frozenCtx c (M0 ++ J) M0.length) M0 h b v := by
  induction t with
  | any a => exact fun _ => .any _
  | same a hcl => exact fun r => r.cut (c := c) (c2 := frozenCtx c (M0 ++ J) M0.length) (fun o _ => ⟨rfl, rfl⟩) (fun b hb => Or.inl hb) hcl
  | nil k =>
    intro v r
    cases r
    exact .fz0 k none 0
  | row k o off len g cs xs ho hn hg hx hk fw hfw ht ih =>
    intro v r
    cases r with
    | sl _ _ _ _ _ _ hkn h1 hv =>
      obtain ⟨hle, cap, rfl, hlc, hcm, hcc, _⟩ := hv ⟨cs, ho, hg⟩
      obtain ⟨cur, ty, hb, hs, hl, hc⟩ := s.live o cs ho
      have hfl := flat_length hk
      have key : ∀ i, i < (flat xs).length → ∃ u, cur[off + i]? = some u ∧ R (frozenCtx c (M0 ++ J) M0.length) M0 h ((flat xs).getD i .any) u := by
        intro i hi
        have hget : (flat xs)[i]? = some ((flat xs).getD i .any) := by simp [List.getD_eq_getElem?_getD, List.getElem?_eq_getElem hi]
        obtain ⟨u, hu, hr⟩ := hc _ _ (hfw i _ hget)
        exact ⟨u, hu, ih i _ hget hr⟩
      subst hx
      refine .fz k xs (c.σ o) off cap (fun i => cur.getD (off + i) undef) cur ty (0, 0) (Or.inr ⟨o, cs, hn, ho, rfl⟩) hb hlc hk (fun i hi => ?_) (fun i b hi => ?_)
      · obtain ⟨u, hu, _⟩ := key i hi
        rw [Array.getD_eq_getD_getElem?, hu]; rfl
      · have hlt := (List.getElem?_eq_some_iff.1 hi).1
        obtain ⟨u, hu, hr⟩ := key i hlt
        have : (flat xs).getD i .any = b := by rw [List.getD_eq_getElem?_getD, hi]; rfl
        rw [this] at hr
        show R _ M0 h b (cur.getD (off + i) undef)
        rw [Array.getD_eq_getD_getElem?, hu]; exact hr
  | fp o off g cs xs ho hn hg fw hfw ht ih =>
    intro v r
    cases r with
    | ptr _ _ _ _ hkn h1 hv =>
      have := hv ⟨cs, ho, hg⟩
      subst this
      obtain ⟨cur, ty, hb, hs, hl, hc⟩ := s.live o cs ho
      have key : ∀ (i : Nat) (b : AV), xs[i]? = some b → ∃ u, cur[off + i]? = some u ∧ R (frozenCtx c (M0 ++ J) M0.length) M0 h b u := by
        intro i b hi
        obtain ⟨u, hu, hr⟩ := hc _ _ (hfw i b hi)
        exact ⟨u, hu, ih i b hi hr⟩
      refine .fp xs (c.σ o) off (fun i => cur.getD (off + i) undef) cur ty (0, 0) (Or.inr ⟨o, cs, hn, ho, rfl⟩) hb (fun i hi => ?_) (fun i b hi => ?_)
      · obtain ⟨u, hu, _⟩ := key i _ (List.getElem?_eq_getElem hi)
        rw [Array.getD_eq_getD_getElem?, hu]; rfl
      · obtain ⟨u, hu, hr⟩ := key i b hi
        show R _ M0 h b (cur.getD (off + i) undef)
        rw [Array.getD_eq_getD_getElem?, hu]; exact hr
  | fz k xs ys hl hf hk fw hfw ht ih =>
    intro v r
    cases r with
    | fz0 _ A cap =>
      have : ys = [] := List.eq_nil_of_length_eq_zero (by simpa using hl.symm)
      subst this; exact .fz0 k A cap
    | fz _ _ B off cap f cur ty fr0 hp hb hlc hk0 hf0 hr =>
      have hlen := hl
      rw [hl]
      refine .fz k ys B off cap f cur ty fr0 (Or.inl hp) hb (by omega) hk (fun i hi => hf0 i (by omega)) fun i b hi => ?_
      exact ih i b hi (hr i _ (hfw i b hi))
  | agg xs ys hl fw hfw ht ih =>
    intro v r
    cases r with
    | agg _ arr fv hs hf hr =>
      refine .agg ys arr fv (by omega) (fun i hi => hf i (by omega)) fun i b hi => ?_
      exact ih i b hi (hr i _ (hfw i b hi))
  | tup xs ys hl fw hfw ht ih =>
    intro v r
    cases r with
    | tup _ arr fv hs hf hr =>
      refine .tup ys arr fv (by omega) (fun i hi => hf i (by omega)) fun i b hi => ?_
      exact ih i b hi (hr i _ (hfw i b hi))
  | fn f xs ys hl fw hfw ht ih =>
    intro v r
    cases r with
    | fn _ _ arr fv hs hf hr =>
      refine .fn f ys arr fv (by omega) (fun i hi => hf i (by omega)) fun i b hi => ?_
      exact ih i b hi (hr i _ (hfw i b hi))

theorem R.tell' {c : Ctx} {M0 J : List AO} {h : Array Obj} {a b : AV} {v : Value} (r : R c (M0 ++ J) h a v) (s : Sim c (M0 ++ J) h) (t : Tell (M0 ++ J) M0.length a b) : R (frozenCtx c (M0 ++ J) M0.length) M0 h b v := r.tell s t

theorem Sim.drop {c : Ctx} {M0 J : List AO} {h : Array Obj} (s : Sim c (M0 ++ J) h) (hcl : ClM M0) {n : Nat} (hn : n ≤ M0.length) :
    FrN n c (M0 ++ J) h (frozenCtx c (M0 ++ J) M0.length) M0 h ∧ Sim (frozenCtx c (M0 ++ J) M0.length) M0 h := by
  have at_ : ∀ {o : Nat}, o < M0.length → (M0 ++ J)[o]? = M0[o]? := fun ho => List.getElem?_append_left ho
  have up : ∀ {o : Nat} {cs : List AV}, M0[o]? = some (.mem cs) → (M0 ++ J)[o]? = some (.mem cs) := fun ho => by rw [at_ (List.getElem?_eq_some_iff.1 ho).1]; exact ho
  refine ⟨⟨fun b hb => Or.inl hb, fun _ _ => rfl, fun o ob ho hob hnr => ⟨ob, by rw [← at_ (by omega)]; exact hob, hnr, fun cs' e => ⟨cs', e, Nat.le_refl _, fun _ => ⟨rfl, rfl⟩⟩⟩⟩, ?_, ?_, ?_, ?_⟩
  · intro o cs ho
    obtain ⟨cur, ty, hb, hs, hl, hc⟩ := s.live o cs (up ho)
    refine ⟨cur, ty, hb, hs, hl, fun i a hi => ?_⟩
    obtain ⟨u, hu, hr⟩ := hc i a hi
    exact ⟨u, hu, hr.cut (c := c) (c2 := frozenCtx c (M0 ++ J) M0.length) (fun o _ => ⟨rfl, rfl⟩) (fun b hb => Or.inl hb) (hcl o cs ho i a hi)⟩
  · intro o o' cs cs' h1 h2 e
    exact s.inj o o' cs cs' (up h1) (up h2) e
  · rintro o cs ho (hp | ⟨o', cs', hge, ho', e⟩)
    · exact s.apart o cs (up ho) hp
    · have := s.inj o o' cs cs' (up ho) ho' e
      have hlt := (List.getElem?_eq_some_iff.1 ho).1
      omega
  · rintro b (hb | ⟨o', cs', hge, ho', rfl⟩)
    · exact s.old b hb
    · exact s.lt ho'
theorem SimE.drop {E : Env} {c : Ctx} {M0 J : List AO} {h : Array Obj} (s : SimE E c (M0 ++ J) h) (hcl : ClM M0) : SimE E (frozenCtx c (M0 ++ J) M0.length) M0 h := by
  refine ⟨(s.sim.drop hcl (Nat.le_refl _)).2, fun g cs e => ?_⟩
  have hr := s.glob g cs e
  exact hr.cut (c := c) (c2 := frozenCtx c (M0 ++ J) M0.length) (fun o _ => ⟨rfl, rfl⟩) (fun b hb => Or.inl hb) (.fp cs fun i a hi => (E.cl g cs e i a hi).mono (Nat.zero_le _))

/-- In the midst of code: what was made behind M0 is frozen and dropped. -/
theorem AW.tell {E : Env} {n sz : Nat} {x : Code} {T T2 : Tm} {M0 J : List AO} {Q : Exit → Tm → List AO → Prop} (hn : n ≤ M0.length) (hcl : ClM M0) (ht : ∀ i, Tell (M0 ++ J) M0.length (T i) (T2 i)) (h : AW E n sz x T2 M0 Q) : AW E n sz x T (M0 ++ J) Q :=
  .retell (fun c a w s => ⟨_, (s.sim.sim.drop hcl hn).1, s.defers, s.sim.drop hcl, s.size, fun i => (s.tmps i).tell' s.sim.sim (ht i)⟩) h
theorem AL.tell {E : Env} {n sz : Nat} {ops : Array Oper} {l : List Oper} {T T2 : Tm} {M0 J : List AO} {Q : Exit → Tm → List AO → Prop} (hn : n ≤ M0.length) (hcl : ClM M0) (ht : ∀ i, Tell (M0 ++ J) M0.length (T i) (T2 i)) (h : AL E n sz ops l T2 M0 Q) : AL E n sz ops l T (M0 ++ J) Q :=
  .retell (fun c a w s => ⟨_, (s.sim.sim.drop hcl hn).1, s.defers, s.sim.drop hcl, s.size, fun i => (s.tmps i).tell' s.sim.sim (ht i)⟩) h
theorem tell_none (M : List AO) (n : Nat) (T : Tm) : ∀ i, Tell M n (T i) ((fun _ => .any) i) := fun i => .any _
theorem tell_put {M : List AO} {n : Nat} {T T2 : Tm} (d : Nat) (r : AV) (hr : Tell M n (T d) r) (h : ∀ i, Tell M n (T i) (T2 i)) : ∀ i, Tell M n (T i) (updA T2 d r i) := by
  intro i
  unfold updA
  split
  · rename_i e; subst e; exact hr
  · exact h i
/-- The memory that code at hand lies in names nothing beyond itself. -/
theorem AW.closed {E : Env} {n sz : Nat} {x : Code} {T : Tm} {M : List AO} {Q : Exit → Tm → List AO → Prop} (h : ClM M → AW E n sz x T M Q) : AW E n sz x T M Q :=
  fun c a w s => h s.sim.sim.cl c a w s

/-- How a result may be told where the function has returned: what was made behind M0 is frozen and dropped. -/
def packA : List AV → AV
  | [r] => r
  | rs => .tup rs
def packV (vs : List Value) : Value := if h : vs.toArray.size = 1 then vs.toArray[0] else .tuple vs.toArray
def resA (E : Env) (M : List AO) (T : Tm) : List ResultVar → Option (List AV)
  | [] => some []
  | .tmp t :: rest => match resA E M T rest with
    | some rs => some (T t :: rs)
    | none => none
  | .cell a t :: rest => match E.tab t, behindA M (T a) with
    | some d, some cs => match loadA d cs, resA E M T rest with
      | some r, some rs => some (r :: rs)
      | _, _ => none
    | _, _ => none
theorem behind_load {E : Env} {c : Ctx} {M : List AO} {w : World} (s : SimE E c M w.heap) {x : AV} {v : Value} (hR : R c M w.heap x v) {t : TypeId} {d : TD} (hd : E.tab t = some d) {cs : List AV} (hb : behindA M x = some cs) {r : AV} (hr : loadA d cs = some r) :
    ∃ a u, v = .pointer (some a) ∧ (loadVar t a).run E.P w = .ok u w ∧ R c M w.heap r u := by
  unfold behindA at hb
  split at hb
  · injection hb with hb; subst hb
    cases hR with
    | fp _ B off f cur ty' fr hp hbb hf hr0 =>
      obtain ⟨u, hrun, hu⟩ := run_loadVar (E.ok t d hd) (off := off) hbb (fun i b hi => ⟨f i, hf i (List.getElem?_eq_some_iff.1 hi).1, hr0 i b hi⟩) hr
      exact ⟨_, u, rfl, hrun, hu⟩
  · rename_i o off g
    split at hb
    · rename_i cs0 ho
      split at hb
      · rename_i hg
        injection hb with hb; subst hb
        cases hR with
        | ptr _ _ _ _ hk h1 hval =>
          have := hval ⟨cs0, ho, hg⟩
          subst this
          obtain ⟨cur, ty', hbb, hs, hl, hc⟩ := live_at s.sim ho
          obtain ⟨u, hrun, hu⟩ := run_loadVar (E.ok t d hd) (off := off) hbb (cs := cs0.drop off) (fun i b hi => by rw [List.getElem?_drop] at hi; exact hc _ b hi) hr
          exact ⟨_, u, rfl, hrun, hu⟩
      · cases hb
    · cases hb
  · cases hb
theorem mapM_res {E : Env} {c : Ctx} {M : List AO} {w : World} (s : SimE E c M w.heap) {T : Tm} {tmps : Array Value} (hT : Rt c M w.heap T tmps) (g : ResultVar → Sem Value) (hg : ∀ t, g (.tmp t) = Pure.pure (tmps.getD t undef)) (hg2 : ∀ a t, g (.cell a t) = asAddr (tmps.getD a undef) >>= fun x => loadVar t x) :
    ∀ (l : List ResultVar) (rs : List AV), resA E M T l = some rs → ∃ vs, (l.mapM g).run E.P w = .ok vs w ∧ Rl c M w.heap rs vs
  | [], rs, h => by injection h with h; subst h; exact ⟨[], rfl, .nil ..⟩
  | .tmp t :: rest, rs, h => by
    simp only [resA] at h
    split at h
    · rename_i rs' he
      injection h with h; subst h
      obtain ⟨vs, hvs, hR⟩ := mapM_res s hT g hg hg2 rest rs' he
      refine ⟨tmps.getD t undef :: vs, ?_, .cons (hT t) hR⟩
      rw [List.mapM_cons]
      simp only [Sem.run_bind, hg, Sem.run_pure, Result.andThen_ok, hvs]
    · cases h
  | .cell a t :: rest, rs, h => by
    simp only [resA] at h
    split at h
    · rename_i d cs hd hb
      split at h
      · rename_i r rs' hr he
        injection h with h; subst h
        obtain ⟨vs, hvs, hR⟩ := mapM_res s hT g hg hg2 rest rs' he
        obtain ⟨ad, u, hv, hrun, hu⟩ := behind_load s (hT a) hd hb hr
        refine ⟨u :: vs, ?_, .cons hu hR⟩
        rw [List.mapM_cons]
        simp only [Sem.run_bind, hg2, hv, asAddr, Sem.run_pure, Result.andThen_ok, hrun, hvs]
      · cases h
    · cases h
theorem results_run {E : Env} {c : Ctx} {M : List AO} {w : World} (s : SimE E c M w.heap) {T : Tm} {fn : Func} {tmps : Array Value} (hT : Rt c M w.heap T tmps) {rs : List AV} (h : resA E M T fn.results.toList = some rs) :
    ∃ vs, (results fn tmps).run E.P w = .ok (packV vs) w ∧ Rl c M w.heap rs vs := by
  unfold results
  rw [Array.mapM_eq_mapM_toList]
  simp only [Sem.run_bind, Sem.run_map]
  have key : ∀ (m : Sem (List Value)) (vs : List Value), m.run E.P w = .ok vs w →
      ((m.run E.P w).andThen fun a w' => Result.ok a.toArray w').andThen (fun a w' => (Pure.pure (if h : a.size = 1 then a[0] else Value.tuple a) : Sem Value).run E.P w') = .ok (packV vs) w := by
    intro m vs hm
    rw [hm]; rfl
  obtain ⟨vs, hvs, hR⟩ := mapM_res s hT (fun | .tmp t => Pure.pure (tmps.getD t undef) | .cell a t => asAddr (tmps.getD a undef) >>= fun x => loadVar t x) (fun _ => rfl) (fun _ _ => rfl) _ _ h
  exact ⟨vs, key _ _ hvs, hR⟩
theorem pack_R {c : Ctx} {M : List AO} {h : Array Obj} {rs : List AV} {vs : List Value} (r : Rl c M h rs vs) : R c M h (packA rs) (packV vs) := by
  match rs, vs, r with
  | [], vs, r =>
    have : vs = [] := List.eq_nil_of_length_eq_zero r.1.symm
    subst this; exact R.tup' r
  | [a], vs, r =>
    match vs, r with
    | [], r => cases r.1
    | [v], r => obtain ⟨u, hu, hr⟩ := r.2 0 a rfl; simp at hu; subst hu; exact hr
    | _ :: _ :: _, r => have := r.1; simp at this
  | a :: b :: rest, vs, r =>
    match vs, r with
    | [], r => cases r.1
    | [v], r => have := r.1; simp at this
    | v :: v2 :: rest2, r => exact R.tup' r

/-- How a body may leave: what it tells, with what was made behind M0 frozen and dropped. -/
def Fin (E : Env) (n : Nat) (res : List ResultVar) (Q : AV → List AO → Prop) : Exit → Tm → List AO → Prop := fun e T' M' => (e = .normal ∨ e = .ret) ∧
  ∃ rs M0 J r, resA E M' T' res = some rs ∧ M' = M0 ++ J ∧ n ≤ M0.length ∧ (ClM M' → ClM M0) ∧ Tell M' M0.length (packA rs) r ∧ Q r M0
/-- A function's contract out of its body. -/
theorem AC.body {E : Env} {f : FuncId} {fn : Func} {code : Code} {args : List AV} {M : List AO} {Q : AV → List AO → Prop} (hf : E.P.funcs[f]? = some fn) (hn : (fn.name == "runtime.NumGoroutine") = false) (hb : fn.body = some code) (hl : args.length ≤ fn.ntmps)
    (h : ClM M → AW E M.length fn.ntmps code (argsT args) M (Fin E M.length fn.results.toList Q)) : AC E f args M Q := by
  refine .of_body hf hn hb hl (.closed fun hcl => (h hcl).mono ?_)
  rintro e T' M' ⟨he, rs, M0, J, r, hrs, rfl, hlen, hcl0, ht, hq⟩
  refine ⟨he, fun c a w s => ?_⟩
  have hcl0 := hcl0 s.sim.sim.cl
  obtain ⟨vs, hrun, hR⟩ := results_run s.sim s.tmps hrs
  exact ⟨_, r, M0, _, hrun, hq, (s.sim.sim.drop hcl0 hlen).1, s.sim.drop hcl0, (pack_R hR).tell' s.sim.sim ht⟩
end Go.Ax
