/- Two effects that stand in no order: a variable is made at a place that was kept for it. -/
import Derived.Test.YtnbfoiidlbfbeaaGreatAx14
set_option linter.unusedVariables false
set_option linter.unusedSimpArgs false
namespace Go.Ax
open Go.RowKit (Below)

/-- What was kept is filled. -/
theorem Sim.fill {c : Ctx} {M : List AO} {h : Array Obj} (s : Sim c M h) (o : Nat) (cs' : List AV) (vs : Array Value) (ty : TypeId) (ho : M[o]? = some .resv)
    (hl' : cs'.length ≤ vs.size) (hv : ∀ (i : Nat) (a : AV), cs'[i]? = some a → ∃ u, vs[i]? = some u ∧ R c M h a u) :
    let c' : Ctx := { σ := upd c.σ o h.size, cap := upd c.cap o vs.size, φ := c.φ }
    Fr c M h c' (M.set o (.mem cs')) (h.push (.cells vs ty)) ∧ Sim c' (M.set o (.mem cs')) (h.push (.cells vs ty)) := by
  intro c'
  have hlt := (List.getElem?_eq_some_iff.1 ho).1
  have fr : Fr c M h c' (M.set o (.mem cs')) (h.push (.cells vs ty)) := by
    refine ⟨fun _ hb => hb, fun b hb => ?_, fun o1 ob ho1 hnr => ?_⟩
    · rw [Array.getElem?_push, if_neg (by have := s.old b hb; omega)]
    by_cases e : o1 = o
    · subst e
      rw [ho] at ho1
      obtain rfl := Option.some.inj ho1
      exact absurd rfl hnr
    · exact ⟨ob, by rw [List.getElem?_set_ne (by omega)]; exact ho1, hnr, fun cs2 e2 => ⟨cs2, e2, Nat.le_refl _, fun _ => ⟨upd_ne _ _ e, upd_ne _ _ e⟩⟩⟩
  have look : ∀ (o1 : Nat) (cs1 : List AV), (M.set o (.mem cs'))[o1]? = some (.mem cs1) → (o1 = o ∧ cs1 = cs') ∨ (o1 ≠ o ∧ M[o1]? = some (.mem cs1)) := by
    intro o1 cs1 h1
    by_cases e : o1 = o
    · subst e
      rw [List.getElem?_set_self hlt] at h1
      injection h1 with h1; injection h1 with h1
      exact .inl ⟨rfl, h1.symm⟩
    · rw [List.getElem?_set_ne (by omega)] at h1
      exact .inr ⟨e, h1⟩
  refine ⟨fr, ?_, ?_, ?_, ?_⟩
  · intro o1 cs1 h1
    rcases look o1 cs1 h1 with ⟨rfl, rfl⟩ | ⟨hne, h2⟩
    · refine ⟨vs, ty, ?_, (upd_same _ _ _).symm, hl', fun i a hi => ?_⟩
      · show (h.push _)[upd c.σ o1 h.size o1]? = _
        rw [upd_same]; simp
      · obtain ⟨u, hu, hr⟩ := hv i a hi
        exact ⟨u, hu, hr.mono fr⟩
    · obtain ⟨cur, t, hb, hs1, hl1, hc⟩ := s.live o1 cs1 h2
      have e1 : c'.σ o1 = c.σ o1 := upd_ne _ _ hne
      have e2 : c'.cap o1 = c.cap o1 := upd_ne _ _ hne
      refine ⟨cur, t, ?_, by rw [e2]; exact hs1, hl1, fun i a hi => ?_⟩
      · rw [e1, Array.getElem?_push, if_neg (by have := lt_of_get hb; omega)]; exact hb
      · obtain ⟨u, hu, hr⟩ := hc i a hi
        exact ⟨u, hu, hr.mono fr⟩
  · intro o1 o2 cs1 cs2 h1 h2 e
    rcases look o1 cs1 h1 with ⟨p1, _⟩ | ⟨n1, m1⟩ <;> rcases look o2 cs2 h2 with ⟨p2, _⟩ | ⟨n2, m2⟩
    · rw [p1, p2]
    · have e1 : c'.σ o2 = c.σ o2 := upd_ne _ _ n2
      have e2 : c'.σ o1 = h.size := by rw [p1]; exact upd_same _ _ _
      have := s.lt m2
      omega
    · have e1 : c'.σ o1 = c.σ o1 := upd_ne _ _ n1
      have e2 : c'.σ o2 = h.size := by rw [p2]; exact upd_same _ _ _
      have := s.lt m1
      omega
    · have e1 : c'.σ o1 = c.σ o1 := upd_ne _ _ n1
      have e2 : c'.σ o2 = c.σ o2 := upd_ne _ _ n2
      exact s.inj o1 o2 cs1 cs2 m1 m2 (by rw [← e1, ← e2]; exact e)
  · intro o1 cs1 h1 hp
    rcases look o1 cs1 h1 with ⟨rfl, _⟩ | ⟨n1, h1⟩
    · have e2 : c'.σ o1 = h.size := upd_same _ _ _
      rw [e2] at hp
      have := s.old _ hp
      omega
    · have e1 : c'.σ o1 = c.σ o1 := upd_ne _ _ n1
      rw [e1] at hp
      exact s.apart o1 cs1 h1 hp
  · intro b hb
    have := s.old b hb
    simp; omega

theorem ok_allocAt {E : Env} {sz : Nat} {T : Tm} {M : List AO} {N : AV → List AO → Prop} {dst : Option Tmp} {ty : TypeId} {pos : String} {after : Array Edge} {gd : Option (Nat × Bool)} (q : Nat) (hq : M[q]? = some .resv)
    (t : TypeId) (d : TD) (hd : E.tab t = some d) (hx : (ofZ d.zero).whole = true) (h : N (.ptr q 0 (ofZ d.zero).cells.length) (M.set q (.mem (ofZ d.zero).cells))) : OpOk E sz ⟨dst, .alloc t, ty, pos, after, gd⟩ T M N :=
  .val fun c a w s => by
    have hlt := (List.getElem?_eq_some_iff.1 hq).1
    obtain ⟨hc, h1⟩ := (ofZ_R c M w.heap d.zero).cells hx
    have hA := s.sim.sim.fill q (ofZ d.zero).cells d.zero.cells t hq (by rw [hc.1]; simp) (fun i b hi => by obtain ⟨u, hu, hr⟩ := hc.2 i b hi; exact ⟨u, by simpa using hu, hr⟩)
    refine ⟨.pointer (some ⟨w.heap.size, 0, none⟩), w.alloc (.cells d.zero.cells t), _, _, _, ?_, h, hA.1, ⟨rfl, rfl, rfl, by simp⟩, s.sim.mk' hA.1 hA.2, ?_⟩
    · simp [execOp, Instr.alloc, (E.ok t d hd).run_zeroValue, newVar, newRow]
    · refine .ptr _ _ _ _ ⟨.mem (ofZ d.zero).cells, by rw [List.getElem?_set_self hlt], (fun h => by cases h), fun cs e => by injection e with e; subst e; exact Nat.le_refl _⟩ rfl fun _ => ?_
      simp [upd]

/-- A place is kept. -/
theorem AW.reserve {E : Env} {n : Nat} {x : Code} {sz : Nat} {T : Tm} {M : List AO} {Q : Exit → Tm → List AO → Prop} (h : AW E n sz x T (M ++ [.resv]) Q) : AW E n sz x T M Q := by
  refine .retell (fun c a w s => ?_) h
  have fr : Fr c M w.heap c (M ++ [.resv]) w.heap := ⟨fun _ h => h, fun _ _ => rfl, fun o ob ho hne => ⟨ob, by rw [List.getElem?_append_left (List.getElem?_eq_some_iff.1 ho).1]; exact ho, hne, fun cs' e => ⟨cs', e, Nat.le_refl _, fun _ => ⟨rfl, rfl⟩⟩⟩⟩
  have look : ∀ (o : Nat) (cs : List AV), (M ++ [AO.resv])[o]? = some (.mem cs) → M[o]? = some (.mem cs) := by
    intro o cs ho
    rcases Nat.lt_or_ge o M.length with hlt | hge
    · rw [List.getElem?_append_left hlt] at ho; exact ho
    · rw [List.getElem?_append_right hge] at ho
      rcases Nat.lt_or_ge 0 (o - M.length) with h1 | h1
      · rw [List.getElem?_eq_none (by simp; omega)] at ho; cases ho
      · have : o - M.length = 0 := by omega
        rw [this] at ho; simp at ho
  have sm := s.sim.sim
  refine ⟨c, fr.toN n, s.defers, s.sim.mk' fr ⟨fun o cs ho => ?_, fun o o' cs cs' h1 h2 => sm.inj o o' cs cs' (look o cs h1) (look o' cs' h2), fun o cs ho => sm.apart o cs (look o cs ho), sm.old⟩, s.size, s.tmps.mono fr⟩
  obtain ⟨cur, ty, hb, hs, hl, hc⟩ := sm.live o cs (look o cs ho)
  exact ⟨cur, ty, hb, hs, hl, fun i a hi => by obtain ⟨u, hu, hr⟩ := hc i a hi; exact ⟨u, hu, hr.mono fr⟩⟩

/-! ### The rule -/
def zcA (E : Env) (t : TypeId) : List AV := match E.tab t with
  | some d => (ofZ d.zero).cells
  | none => []
def zokA (E : Env) (t : TypeId) : Prop := match E.tab t with
  | some d => (ofZ d.zero).whole = true
  | none => False
def detR (E : Env) (ds : List (Option Tmp)) (d0 q : Nat) (t : TypeId) (T : Tm) (M : List AO) (s : AV) (M1 : List AO) (eff : Bool) (o : Oper) : Prop :=
  if o.dst = some d0 then o.op = .alloc t ∧ o.guard = none ∧ zokA E t ∧ .ptr q 0 (zcA E t).length = s ∧ M = M1
  else detA E ds T M s M1 eff o ∧ detA E ds T (M.set q (.mem (zcA E t))) s (M1.set q (.mem (zcA E t))) eff o

def drawG (sz : Nat) (D : Tm → List AO → AV → List AO → Bool → Oper → Prop) (F : List Oper → Tm → List AO → Prop) : List Nat → List Oper → Tm → List AO → List (List AO) → List (List AO → Prop) → Prop
  | [], l, T, M, _, _ => F l T M
  | _ :: _, [], _, _, _, _ => False
  | 0 :: cl, o :: l, T, M, H, Pd => fits sz o.dst ∧ ∃ s, D T M s M false o ∧ drawG sz D F cl l (putA T o.dst s) M H Pd
  | 1 :: cl, o :: l, T, M, H, Pd => fits sz o.dst ∧ ∃ M1 s, D T M s M1 true o ∧ allP Pd M1 ∧ drawG sz D F cl l (putA T o.dst s) M1 (M :: H) Pd
  | 2 :: cl, o :: l, T, M, H, Pd => fits sz o.dst ∧ ∃ s, (∀ M', D T M' s M' false o) ∧ drawG sz D F cl l (putA T o.dst s) M H Pd
  | _ :: cl, o :: l, T, M, H, Pd => fits sz o.dst ∧ ∃ s, D T M s M false o ∧ allM H (fun M' => D T M' s M' false o) ∧ drawG sz D F cl l (putA T o.dst s) M H ((fun M' => D T M' s M' false o) :: Pd)

theorem drawG_plan {sz : Nat} {D : Tm → List AO → AV → List AO → Bool → Oper → Prop} {F : List Oper → Tm → List AO → Prop} : ∀ (cl : List Nat) (l : List Oper) (T : Tm) (M : List AO) (H : List (List AO)) (Pd : List (List AO → Prop)), drawG sz D F cl l T M H Pd → (∀ p ∈ Pd, p M) →
    ∃ sv Tt Mt, Plan sz D F cl l T M H Pd sv Tt Mt
  | [], l, T, M, H, Pd, h, hp => ⟨fun _ => .any, fun _ => T, fun _ => M, ⟨Nat.zero_le _, rfl, rfl, fun j o c hc _ => by simp at hc, fun p hp' k _ => hp p hp', by simpa [drawG] using h⟩⟩
  | c :: _, [], _, _, _, _, h, _ => by match c, h with | 0, h => exact h.elim | 1, h => exact h.elim | 2, h => exact h.elim | n + 3, h => exact h.elim
  | 0 :: cl, o :: l, T, M, H, Pd, ⟨hf, s, hd, h⟩, hp => by
    obtain ⟨sv, Tt, Mt, p⟩ := drawG_plan cl l _ _ _ _ h hp
    exact ⟨_, _, _, p.cons hf (fun _ => ⟨rfl, hd⟩) (fun e => by cases e) (fun e => by cases e) (fun e => absurd e (by decide)) (fun _ h => h) (.inl rfl) (fun _ h => h) hp⟩
  | 1 :: cl, o :: l, T, M, H, Pd, ⟨hf, M1, s, hd, hP, h⟩, hp => by
    obtain ⟨sv, Tt, Mt, p⟩ := drawG_plan cl l _ _ _ _ h (allP_mem hP)
    exact ⟨_, _, _, p.cons hf (fun e => absurd rfl e) (fun _ => hd) (fun e => by cases e) (fun e => absurd e (by decide)) (fun _ h => List.mem_cons_of_mem _ h) (.inr (List.mem_cons_self ..)) (fun _ h => h) hp⟩
  | 2 :: cl, o :: l, T, M, H, Pd, ⟨hf, s, hd, h⟩, hp => by
    obtain ⟨sv, Tt, Mt, p⟩ := drawG_plan cl l _ _ _ _ h hp
    exact ⟨_, _, _, p.cons hf (fun _ => ⟨rfl, hd M⟩) (fun e => by cases e) (fun _ => hd) (fun e => absurd e (by decide)) (fun _ h => h) (.inl rfl) (fun _ h => h) hp⟩
  | (n + 3) :: cl, o :: l, T, M, H, Pd, ⟨hf, s, hd, hH, h⟩, hp => by
    obtain ⟨sv, Tt, Mt, p⟩ := drawG_plan cl l _ _ _ _ h (fun q hq => by
      cases hq with
      | head => exact hd
      | tail _ hq => exact hp q hq)
    exact ⟨_, _, _, p.cons hf (fun _ => ⟨rfl, hd⟩) (fun e => absurd e (by omega)) (fun e => absurd e (by omega)) (fun _ => ⟨allM_mem hH, List.mem_cons_self ..⟩) (fun _ h => h) (.inl rfl) (fun _ h => List.mem_cons_of_mem _ h) hp⟩

theorem ok_op {E : Env} {n sz : Nat} {ops : Array Oper} {o : Oper} {i : Nat} {T : Tm} {M M1 : List AO} {s : AV} (hi : ops[i]? = some o) (hg : o.guard = none) (hd : OpOk E sz o T M fun r M' => r = s ∧ M' = M1) (hf : fits sz o.dst)
    {c : Ctx} {a : Act} {w : World} (st : St E c sz T M a w) {Q : Exit → Act → World → Prop} {K : Act → World → Prop}
    (k : ∀ c2 a2 w2, St E c2 sz (putA T o.dst s) M1 a2 w2 → FrN n c M w.heap c2 M1 w2.heap → WF w w2 → K a2 w2) : wpOp E.P ops Q i K a w := by
  have run : o.wp E.P a w K Q := by
    refine hd c a w K Q st ?_
    rintro r v M' c1 w1 ⟨rfl, rfl⟩ hfr hw hs hR
    exact k c1 _ w1 ((St.mk st.defers hs st.size (st.tmps.mono hfr)).put o.dst hf hR) (hfr.toN n) hw
  unfold wpOp
  simp only [hi]
  have hw := guardA_wanted st (o := o) (ops := ops) (b := true) (by rw [hg]; rfl)
  rw [hw, if_pos rfl]
  exact .inl run


theorem AW.drawR {E : Env} {n sz id : Nat} {l : List Oper} {T : Tm} {M : List AO} {Q : Exit → Tm → List AO → Prop} (hm : E.P.follows .mixedOrders = true) (d0 q j0 : Nat) (t : TypeId) (cl masks : List Nat) (hchk : drawOk l cl masks = true) (hj0 : j0 < cl.length ∧ ((l[j0]?).bind (·.dst)) = some d0)
    (h : M[q]? = some .resv ∧ drawG sz (detR E (l.map (·.dst)) d0 q t) (fun l' T' M' => alA E sz (l.map (·.dst)) (Q .normal) l' T' (M'.set q (.mem (zcA E t)))) cl l T M [] [fun M' => M'[q]? = some .resv]) :
    AW E n sz (.region id l.toArray true) T M Q := by
  have ok := drawOk_spec hchk
  obtain ⟨hq, h⟩ := h
  obtain ⟨hj0, hd0⟩ := hj0
  obtain ⟨o0, ho0, hdo0⟩ := Option.bind_eq_some_iff.1 hd0
  obtain ⟨sv, Tt, Mt, p⟩ := drawG_plan cl l T M [] _ h (fun r hr => by rw [List.mem_singleton] at hr; subst hr; exact hq)
  have hres : ∀ k, k ≤ cl.length → (Mt k)[q]? = some .resv := fun k hk => p.pend _ (List.mem_singleton.2 rfl) k hk
  let A : Array Bool → List AO → List AO := fun b M' => if b.getD j0 false = true then M'.set q (.mem (zcA E t)) else M'
  have hlen := p.len
  intro c a w s
  refine wp_region_any hm ?_
  have key : ∀ (u : Nat) (U : List Nat) (listed : Array Bool) (c' : Ctx) (T' : Tm) (M' : List AO) (a' : Act) (w' : World), U.length = u → U.Nodup → (∀ i, i < cl.length → listed.getD i false = false → i ∈ U) → (∀ i ∈ U, i < cl.length ∧ listed.getD i false = false) →
      Mid l cl T sv Mt listed T' M' → FrN n c M w.heap c' (A listed M') w'.heap → WF w w' → St E c' sz T' (A listed M') a' w' → wpAny E.P .any l.toArray (Post E n sz Q c M w) (u + (l.length - cl.length)) listed a' w' := by
    intro u
    induction u with
    | zero =>
      intro U listed c' T' M' a' w' hU hnd hall hsome m hf hw st
      have hU0 : U = [] := List.eq_nil_of_length_eq_zero hU
      subst hU0
      have hl : ∀ i, i < cl.length → listed.getD i false = true := by
        intro i hi
        cases hx : listed.getD i false with
        | true => rfl
        | false => exact absurd (hall i hi hx) (by simp)
      have hlisted : listed = Array.replicate cl.length true ++ Array.replicate (l.length - cl.length) false := by
        apply Array.ext
        · rw [m.size]; simp; omega
        · intro i h1 h2
          rw [m.size] at h1
          rcases Nat.lt_or_ge i cl.length with h3 | h3
          · have := hl i h3
            rw [Array.getElem_append_left (by simpa using h3)]
            simp only [Array.getElem_replicate]
            have h4 : i < listed.size := by rw [m.size]; exact h1
            simpa [Array.getD_eq_getD_getElem?, Array.getElem?_eq_getElem h4] using this
          · have := m.rest i h3 h1
            rw [Array.getElem_append_right (by simpa using h3)]
            simp only [Array.getElem_replicate]
            have h4 : i < listed.size := by rw [m.size]; exact h1
            simpa [Array.getD_eq_getD_getElem?, Array.getElem?_eq_getElem h4] using this
      have hT : T' = Tt cl.length := by
        funext t
        obtain ⟨q1, q2⟩ := p.tt ok cl.length (Nat.le_refl _) t
        by_cases hex : ∃ j oj, j < cl.length ∧ l[j]? = some oj ∧ oj.dst = some t
        · obtain ⟨j, oj, hj, hoj, hd⟩ := hex
          rw [q1 j oj hj hoj hd, m.tmp1 t j oj hj hoj hd (hl j hj)]
        · rw [q2 fun j oj hj hoj hd => hex ⟨j, oj, hj, hoj, hd⟩, m.tmp2 t fun j oj hj hoj hd => absurd ⟨j, oj, hj, hoj, hd⟩ hex]
      have hM : M' = Mt cl.length := by
        obtain ⟨k, hk, hM, hke⟩ := m.mem
        rw [hM]
        refine (p.mt hk (Nat.le_refl _) fun e h1 h2 hce => ?_).symm
        have := (hke e h2 hce).1 (hl e h2)
        omega
      subst hT; subst hM
      have hA : A listed (Mt cl.length) = (Mt cl.length).set q (.mem (zcA E t)) := if_pos (hl j0 hj0)
      rw [hA] at hf st
      have hal : AL E n sz l.toArray (l.drop cl.length) (Tt cl.length) ((Mt cl.length).set q (.mem (zcA E t))) Q := alA_ok (by simpa using p.fin)
      have hwl := hal c' a' w' (Post E n sz Q c M w) st fun e a2 w2 hp => hp.from hf hw
      have hseq := ok.seq
      rw [← hlisted] at hseq
      have := wpAny_of_seq (md := .any) (ops := l.toArray) (l.drop cl.length) cl.length listed a' w' (fun j => by rw [List.getElem?_drop]; simp) (by simpa using hseq) hwl
      rw [Nat.zero_add]
      simpa using this
    | succ u ih =>
      intro U listed c' T' M' a' w' hU hnd hall hsome m hf hw st
      rw [show u + 1 + (l.length - cl.length) = u + (l.length - cl.length) + 1 from by omega]
      have hne : ∃ i0, i0 ∈ U := by
        cases U with
        | nil => cases hU
        | cons x xs => exact ⟨x, List.mem_cons_self ..⟩
      have getTF : ∀ j, j < l.length → listed.getD j true = listed.getD j false := fun j hj => getD_tf (by rw [m.size]; exact hj)
      have least : ∀ i, i ∈ U → ∃ j, j ∈ Region.ready .any l.toArray listed := by
        intro i
        induction i using Nat.strongRecOn with
        | _ i ihi =>
          intro hi
          obtain ⟨hlt, hun⟩ := hsome i hi
          obtain ⟨o, ho⟩ : ∃ o, l[i]? = some o := ⟨_, List.getElem?_eq_getElem (by omega)⟩
          by_cases hr : ∀ e ∈ o.after, Region.binds .any e = true → listed.getD e.on false = true
          · refine ⟨i, mem_ready.2 ⟨by rw [getTF i (by omega)]; exact hun, o, by simpa using ho, hr⟩⟩
          · have : ∃ e ∈ o.after, Region.binds .any e = true ∧ listed.getD e.on false = false := by
              apply Classical.byContradiction
              intro hno
              exact hr fun e he hb => by
                cases hx : listed.getD e.on false with
                | true => rfl
                | false => exact absurd ⟨e, he, hb, hx⟩ hno
            obtain ⟨e, he, hb, hx⟩ := this
            have hlt2 := ok.back i o ho e he hb
            exact ihi e.on hlt2 (hall e.on (by omega) hx)
      refine ⟨fun h0 => ?_, fun i hi => ?_⟩
      · obtain ⟨i0, hi0⟩ := hne
        obtain ⟨j, hj⟩ := least i0 hi0
        rw [h0] at hj; cases hj
      · obtain ⟨hun0, o, ho, hready⟩ := mem_ready.1 hi
        have ho : l[i]? = some o := by simpa using ho
        have hil : i < l.length := (List.getElem?_eq_some_iff.1 ho).1
        have hun : listed.getD i false = false := by rw [← getTF i hil]; exact hun0
        have hlt : i < cl.length := by
          rcases Nat.lt_or_ge i cl.length with h1 | h1
          · exact h1
          · obtain ⟨i0, hi0⟩ := hne
            obtain ⟨h2, h3⟩ := hsome i0 hi0
            have := mask_listed ok m.closed i o ho hready i0 (ok.tail i h1 hil i0 h2)
            rw [h3] at this; cases this
        obtain ⟨cc, hcc⟩ : ∃ cc, cl[i]? = some cc := ⟨_, List.getElem?_eq_getElem hlt⟩
        obtain ⟨hT, M1, hdet, hmid⟩ := m.step p ok hlt ho hcc hun hready
        have hfit := (p.step i o cc hcc ho).1
        have hlist : l.toArray.toList.map (·.dst) = l.map (·.dst) := by simp
        have next : ∀ c2 a2 w2, St E c2 sz (putA T' o.dst (sv i)) (A (listed.setIfInBounds i true) M1) a2 w2 → FrN n c' (A listed M') w'.heap c2 (A (listed.setIfInBounds i true) M1) w2.heap → WF w' w2 → wpAny E.P .any l.toArray (Post E n sz Q c M w) (u + (l.length - cl.length)) (listed.setIfInBounds i true) a2 w2 := by
          intro c2 a2 w2 st2 hf2 hw2
          have hmem := hall i hlt hun
          refine ih (U.erase i) _ c2 _ M1 a2 w2 (by rw [List.length_erase_of_mem hmem, hU]; rfl) (hnd.erase i) (fun j hj hx => ?_) (fun j hj => ?_) hmid (hf.trans hf2) (hw.trans hw2) st2
          · by_cases hji : j = i
            · subst hji
              have : (listed.setIfInBounds j true).getD j false = true := by
                have h4 : j < listed.size := by rw [m.size]; exact hil
                simp [Array.getD_eq_getD_getElem?, h4]
              rw [this] at hx; cases hx
            · rw [getD_set_ne false (Ne.symm hji)] at hx
              exact (List.mem_erase_of_ne hji).2 (hall j hj hx)
          · have hji : j ≠ i := fun h => by subst h; exact (hnd.not_mem_erase) hj
            have hjU := List.mem_of_mem_erase hj
            obtain ⟨h1, h2⟩ := hsome j hjU
            exact ⟨h1, by rw [getD_set_ne false (Ne.symm hji)]; exact h2⟩
        unfold detR at hdet
        by_cases hij : o.dst = some d0
        · rw [if_pos hij] at hdet
          obtain ⟨hop, hgd, hz, hs, hM1⟩ := hdet
          have hi0 : i = j0 := uniq ok hlt hj0 ho ho0 hij hdo0
          subst hi0
          subst hM1
          have hA1 : A listed M' = M' := if_neg (by rw [hun]; decide)
          have hA2 : A (listed.setIfInBounds i true) M' = M'.set q (.mem (zcA E t)) := if_pos (by
            have h4 : i < listed.size := by rw [m.size]; exact hil
            simp [Array.getD_eq_getD_getElem?, h4])
          rw [hA1] at st next
          rw [hA2] at next
          obtain ⟨k, hk, hMk, _⟩ := m.mem
          have hq' : M'[q]? = some .resv := by rw [hMk]; exact hres k hk
          obtain ⟨dst, op, ty, pos, after, gd⟩ := o
          simp only at hop hgd
          subst hop
          refine ok_op (n := n) (ops := l.toArray) (i := i) (by simpa using ho) hgd ?_ hfit st next
          unfold zokA at hz
          unfold zcA at hs ⊢
          split at hz
          · rename_i d hd
            rw [hd] at hs
            simp only at hs
            exact ok_allocAt q hq' t d hd hz ⟨hs, rfl⟩
          · exact hz.elim
        · rw [if_neg hij] at hdet
          have hi0 : i ≠ j0 := fun h => hij (by subst h; rw [ho] at ho0; obtain rfl := Option.some.inj ho0; exact hdo0)
          have hA : (listed.setIfInBounds i true).getD j0 false = listed.getD j0 false := getD_set_ne false hi0
          refine det_op (n := n) (ops := l.toArray) (i := i) (T := Tt i) (M := A listed M') (M1 := A (listed.setIfInBounds i true) M1) (eff := cc == 1) (by simpa using ho) ?_ hT hfit st next
          rw [hlist]
          by_cases hb : listed.getD j0 false = true
          · have e1 : A listed M' = M'.set q (.mem (zcA E t)) := if_pos hb
            have e2 : A (listed.setIfInBounds i true) M1 = M1.set q (.mem (zcA E t)) := if_pos (hA.trans hb)
            rw [e1, e2]; exact hdet.2
          · have e1 : A listed M' = M' := if_neg hb
            have e2 : A (listed.setIfInBounds i true) M1 = M1 := if_neg (by rw [hA]; exact hb)
            rw [e1, e2]; exact hdet.1
  have := key cl.length (List.range cl.length) (Array.replicate l.length false) c T M a { w with drawn := w.drawn + 1 } (by simp) List.nodup_range (fun i hi _ => List.mem_range.2 hi) (fun i hi => ⟨List.mem_range.1 hi, getD_replicate_false ..⟩)
    ⟨by simp, fun j o ho hl => (by rw [getD_replicate_false] at hl; cases hl), fun j hj hjl => (by simp [Array.getD_eq_getD_getElem?, hjl]), fun t j o hj ho hd hl => (by rw [getD_replicate_false] at hl; cases hl), fun t _ => rfl, ⟨0, Nat.zero_le _, p.m0.symm, fun e he hce => (by rw [getD_replicate_false]; simp)⟩⟩
    (by rw [show A (Array.replicate l.length false) M = M from if_neg (by rw [getD_replicate_false]; decide)]; exact .refl ..) ⟨rfl, rfl, rfl, Nat.le_refl _⟩ (by rw [show A (Array.replicate l.length false) M = M from if_neg (by rw [getD_replicate_false]; decide)]; exact ⟨s.defers, s.sim, s.size, s.tmps⟩)
  rw [show cl.length + (l.length - cl.length) = l.length from by omega] at this
  simpa using this

end Go.Ax
