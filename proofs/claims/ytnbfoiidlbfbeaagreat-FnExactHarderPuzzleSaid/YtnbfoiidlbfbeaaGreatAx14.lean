/- One object frozen in the midst; what else bodies leave. -/
import Derived.Test.YtnbfoiidlbfbeaaGreatAx13
set_option linter.unusedVariables false
set_option linter.unusedSimpArgs false
namespace Go.Ax

theorem R.freeze {c : Ctx} {M : List AO} {h : Array Obj} (s : Sim c M h) {o : Nat} {cs : List AV} (ho : M[o]? = some (.mem cs)) {k off len : Nat} {xs : List AV} {v : Value} (hr : R c M h (.sl k o off len cs.length) v) (hx : xs.length = len) (hk : ∀ x ∈ xs, x.cells.length = k)
    (hf : ∀ (i : Nat) (b : AV), (flat xs)[i]? = some b → cs[off + i]? = some b) : R { c with φ := fun b => c.φ b ∨ b = c.σ o } (M.set o .dead) h (.fz k xs) v := by
  obtain ⟨fr, sim⟩ := s.freeze o cs ho
  obtain ⟨cur, ty, hb, hs, hl, hc⟩ := s.live o cs ho
  cases hr with
  | sl _ _ _ _ _ _ hkn h1 hv =>
    obtain ⟨hle, cap, rfl, hlc, _⟩ := hv ⟨cs, ho, rfl⟩
    subst hx
    refine .fz k xs (c.σ o) off cap (fun i => cur.getD (off + i) undef) cur ty (0, 0) (Or.inr rfl) hb hlc hk (fun i hi => ?_) (fun i b hi => ?_)
    · obtain ⟨u, hu, _⟩ := hc _ _ (hf i _ (List.getElem?_eq_getElem hi))
      rw [Array.getD_eq_getD_getElem?, hu]; rfl
    · obtain ⟨u, hu, hr⟩ := hc _ _ (hf i b hi)
      show R _ _ h b (cur.getD (off + i) undef)
      rw [Array.getD_eq_getD_getElem?, hu]; exact hr.mono fr
/-- A row that stands in one temporary is frozen. -/
theorem AW.freezeAt {E : Env} {n sz : Nat} {x : Code} {T : Tm} {M : List AO} {Q : Exit → Tm → List AO → Prop} (d : Tmp) {k o len : Nat} {cs xs : List AV} (hd : T d = .sl k o 0 len cs.length) (ho : M[o]? = some (.mem cs)) (hx : xs.length = len) (hk : ∀ x ∈ xs, x.cells.length = k) (hf : flat xs = cs)
    (h : AW E n sz x (updA T d (.fz k xs)) (M.set o .dead) Q) : AW E n sz x T M Q := by
  refine .retell (fun c a w s => ?_) h
  obtain ⟨fr, sim⟩ := s.sim.sim.freeze o cs ho
  refine ⟨_, fr.toN n, s.defers, ⟨sim, fun g cs' e => (s.sim.glob g cs' e).mono fr⟩, s.size, fun i => ?_⟩
  unfold updA
  split
  · rename_i e
    subst e
    have := s.tmps i
    rw [hd] at this
    exact this.freeze s.sim.sim ho hx hk (fun j b hb => by rw [Nat.zero_add, ← hf]; exact hb)
  · exact (s.tmps i).mono fr
theorem AW.gen {E : Env} {n sz : Nat} {x : Code} {T : Tm} {M : List AO} {Q : Exit → Tm → List AO → Prop} (h : ∀ T', T' = T → AW E n sz x T' M Q) : AW E n sz x T M Q := h T rfl
/-- Some temporaries are as they were. -/
def AgT (S : List Nat) (T T0 : Tm) : Prop := ∀ t, t ∈ S → T t = T0 t
theorem AgT_refl (S : List Nat) (T : Tm) : AgT S T T := fun _ _ => rfl
theorem AgT_nil {T T0 : Tm} : AgT [] T T0 = True := eq_true fun _ h => by cases h
theorem AgT_cons {t : Nat} {S : List Nat} {T T0 : Tm} : AgT (t :: S) T T0 = (T t = T0 t ∧ AgT S T T0) :=
  propext ⟨fun h => ⟨h t (List.mem_cons_self ..), fun x hx => h x (List.mem_cons_of_mem _ hx)⟩, fun h x hx => by
    rcases List.mem_cons.1 hx with rfl | hx
    · exact h.1
    · exact h.2 x hx⟩
theorem AgT_upd {S : List Nat} {T T0 : Tm} {d : Nat} {r : AV} (hd : d ∉ S) : AgT S (updA T d r) T0 = AgT S T T0 := by
  refine propext ⟨fun h t ht => ?_, fun h t ht => ?_⟩
  · have := h t ht
    rwa [updA, if_neg (by rintro rfl; exact hd ht)] at this
  · rw [updA, if_neg (by rintro rfl; exact hd ht)]; exact h t ht
theorem tell_eq {M : List AO} {n : Nat} {a v : AV} (h : a = v) (hc : Cl n v) : Tell M n a v := by rw [h]; exact .same v hc
/-- Whether a literal that is not empty stands in a region. -/
def hasLit (l : List Oper) : Bool := l.any fun o => match o.op with | .buildSlice _ n _ => n != 0 | _ => false
theorem AW.opsN {E : Env} {n sz id : Nat} {l : List Oper} {T : Tm} {M : List AO} {Q : Exit → Tm → List AO → Prop} (hl : hasLit l = false) (h : alA E sz (l.map (·.dst)) (Q .normal) l T M) : AW E n sz (.region id l.toArray false) T M Q := .ops h
/-- A block that is left in one state. -/
theorem AW.blockP {E : Env} {n sz id : Nat} {x : Code} {T : Tm} {M : List AO} {Q : Exit → Tm → List AO → Prop} (P : Tm → List AO → Prop) (h : AW E n sz x T M (inBlockA id (thenA P Q))) (hP : ∀ T M, P T M → Q .normal T M) : AW E n sz (.block id x) T M Q :=
  (AW.block h).mono fun e T' M' hq => by
    cases e with
    | normal => exact hP _ _ hq
    | exit i => exact hq
    | goto l => exact hq
    | ret => exact hq
    | panic ch => exact hq
    | outgrown => exact hq
theorem keep_append {M M' : List AO} (hl : M.length ≤ M'.length) (h : ∀ q, q < M.length → M'[q]? = M[q]?) : ∃ J, M' = M ++ J := by
  refine ⟨M'.drop M.length, ?_⟩
  apply List.ext_getElem?
  intro q
  rcases Nat.lt_or_ge q M.length with h1 | h1
  · rw [List.getElem?_append_left h1, h q h1]
  · rw [List.getElem?_append_right h1, List.getElem?_drop]; congr 1; omega
/-- What simp reckons with besides, under one name. -/
theorem s0 : (type_of% @hold_eq) ∧ (type_of% @contA_eq) ∧ (type_of% @atA_eq) ∧ (type_of% @decide_false) ∧ (type_of% @decide_true) ∧ (type_of% @Int.toNat_natCast) ∧ (type_of% @Int.natCast_nonneg) ∧ (type_of% @Int.ofNat_lt) ∧ (type_of% @Int.ofNat_le) ∧ (type_of% @List.set_set.{0}) ∧
    (type_of% @Nat.zero_mul) ∧ (type_of% @Bool.false_or) ∧ (type_of% @Bool.true_or) ∧ (type_of% @Bool.or_false) ∧ (type_of% @Bool.or_true) ∧ (type_of% @Bool.not_true) ∧ (type_of% @Bool.not_false) :=
  ⟨@hold_eq, @contA_eq, @atA_eq, @decide_false, @decide_true, @Int.toNat_natCast, @Int.natCast_nonneg, @Int.ofNat_lt, @Int.ofNat_le, @List.set_set, @Nat.zero_mul, @Bool.false_or, @Bool.true_or, @Bool.or_false, @Bool.or_true, @Bool.not_true, @Bool.not_false⟩
end Go.Ax
