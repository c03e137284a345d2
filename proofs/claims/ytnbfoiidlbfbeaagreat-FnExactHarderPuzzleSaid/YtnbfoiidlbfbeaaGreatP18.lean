/- What lives is lent to a function that only reads it. -/
import Derived.Test.YtnbfoiidlbfbeaaGreatP17
set_option linter.unusedVariables false
set_option linter.unusedSimpArgs false
namespace Go.Ax
open Go.Proofs

/-- Values that name one object, and where they stand behind n objects. -/
inductive Sh (n o : Nat) : AV → AV → Prop
  | scal {a : AV} (h : scal1 a = true) : Sh n o a a
  | sl (k off len g : Nat) : Sh n o (.sl k o off len g) (.sl k (n + o) off len g)
  | ptr (off g : Nat) : Sh n o (.ptr o off g) (.ptr (n + o) off g)
  | agg {xs ys : List AV} (hl : xs.length = ys.length) (h : ∀ (i : Nat) (a b : AV), xs[i]? = some a → ys[i]? = some b → Sh n o a b) : Sh n o (.agg xs) (.agg ys)
  | tup {xs ys : List AV} (hl : xs.length = ys.length) (h : ∀ (i : Nat) (a b : AV), xs[i]? = some a → ys[i]? = some b → Sh n o a b) : Sh n o (.tup xs) (.tup ys)
inductive ShL (n o : Nat) : List AV → List AV → Prop
  | nil : ShL n o [] []
  | cons {a b : AV} {xs ys : List AV} (h : Sh n o a b) (t : ShL n o xs ys) : ShL n o (a :: xs) (b :: ys)
theorem ShL.len {n o : Nat} {xs ys : List AV} (h : ShL n o xs ys) : xs.length = ys.length := by
  induction h with
  | nil => rfl
  | cons h t ih => simp [ih]
theorem ShL.at {n o : Nat} {xs ys : List AV} (h : ShL n o xs ys) : ∀ (i : Nat) (a b : AV), xs[i]? = some a → ys[i]? = some b → Sh n o a b := by
  induction h with
  | nil => intro i a b ha; simp at ha
  | cons h t ih =>
    intro i a b ha hb
    cases i with
    | zero => simp at ha hb; subst ha; subst hb; exact h
    | succ i => exact ih i a b (by simpa using ha) (by simpa using hb)
theorem Sh.agg' {n o : Nat} {xs ys : List AV} (h : ShL n o xs ys) : Sh n o (.agg xs) (.agg ys) := .agg h.len h.at
theorem Sh.tup' {n o : Nat} {xs ys : List AV} (h : ShL n o xs ys) : Sh n o (.tup xs) (.tup ys) := .tup h.len h.at

theorem R.scal1 {c c2 : Ctx} {M M2 : List AO} {h h2 : Array Obj} {a : AV} {v : Value} (r : R c M h a v) (hs : scal1 a = true) : R c2 M2 h2 a v := by
  cases r <;> first | exact .any _ | exact .bool _ | exact .int _ _ | exact .str _ | exact .nilp | exact .nili | exact .nilf | exact .nils | exact .ifc _ _ | cases hs

/-- The memory behind: all but one object are gone. -/
def onlyAt (n len o : Nat) (cs : List AV) : List AO := (List.range len).map fun q => if q = o then .mem cs else .dead
theorem onlyAt_get {M : List AO} {len o : Nat} {cs : List AV} (ho : o < len) : (M ++ onlyAt M.length len o cs)[M.length + o]? = some (.mem cs) := by
  rw [List.getElem?_append_right (by omega)]
  simp [onlyAt, ho]
theorem onlyAt_other {M : List AO} {len o q : Nat} {cs cs' : List AV} (h : (M ++ onlyAt M.length len o cs)[q]? = some (.mem cs')) (hq : M.length ≤ q) : q = M.length + o ∧ cs' = cs := by
  rw [List.getElem?_append_right hq] at h
  simp only [onlyAt, List.getElem?_map] at h
  obtain ⟨x, hx, he⟩ := Option.map_eq_some_iff.1 h
  have hx' : x = q - M.length := by
    have := List.getElem?_eq_some_iff.1 hx
    obtain ⟨h1, h2⟩ := this
    simpa using h2.symm
  split at he
  · injection he with he
    exact ⟨by omega, he.symm⟩
  · cases he

theorem TellL.rl {c : Ctx} {M : List AO} {h : Array Obj} (s : Sim c M h) {xs ys : List AV} {vs : List Value} (t : TellL M 0 xs ys) (r : Rl c M h xs vs) : Rl (frozenCtx c M 0) [] h ys vs :=
  ⟨by rw [← t.len]; exact r.1, fun i b hb => by
    obtain ⟨h1, h2⟩ := t.at i b hb
    obtain ⟨u, hu, hr⟩ := r.2 i _ h1
    exact ⟨u, hu, R.tell (M0 := []) (J := M) s h2 hr⟩⟩
/-- A function that answers plainly, and leaves no memory. -/
theorem AC.lendG {E : Env} {f : FuncId} {args argsF : List AV} {M : List AO} {v : AV} (ht : TellL M 0 args argsF) (h : AC E f argsF [] (fun r M' => r = v ∧ M' = [])) (hs : ∀ (c c2 : Ctx) (M M2 : List AO) (h : Array Obj) (u : Value), R c M h v u → R c2 M2 h v u) : AC E f args M (fun r M' => r = v ∧ M' = M) := by
  refine ⟨h.1, fun c w vs s r => ?_⟩
  have hs0 : SimE E (frozenCtx c M 0) [] w.heap := SimE.drop (M0 := []) (J := M) s (fun o cs ho => by cases ho)
  refine (h.2 _ w vs hs0 (ht.rl s.sim r)).mono ?_
  rintro e w' ⟨r1, v1, M', c', he, ⟨rfl, rfl⟩, hf, hw, hs1, hR⟩
  have fr : Fr c M w.heap c M w'.heap := ⟨fun _ h => h, fun b hb => hf.heap b (Or.inl hb), fun o ob ho hnr => ⟨ob, ho, hnr, fun cs' e => ⟨cs', e, Nat.le_refl _, fun _ => ⟨rfl, rfl⟩⟩⟩⟩
  have sim : Sim c M w'.heap := by
    refine ⟨fun o cs ho => ?_, s.sim.inj, s.sim.apart, fun b hb => Nat.lt_of_lt_of_le (s.sim.old b hb) hw.size⟩
    obtain ⟨cur, ty, hb, hsz, hl, hc⟩ := s.sim.live o cs ho
    refine ⟨cur, ty, ?_, hsz, hl, fun i a hi => ?_⟩
    · rw [hf.heap _ (Or.inr ⟨o, cs, Nat.zero_le _, ho, rfl⟩)]; exact hb
    · obtain ⟨u, hu, hr⟩ := hc i a hi
      exact ⟨u, hu, hr.mono fr⟩
  refine ⟨r1, v1, M, c, he, ⟨rfl, rfl⟩, fr, hw, s.mk' fr sim, hs _ _ _ _ _ _ hR⟩
theorem R.scal {c c2 : Ctx} {M M2 : List AO} {h : Array Obj} {a : AV} {v : Value} (hR : R c M h a v) (hs : scal a = true) : R c2 M2 h a v := by
  unfold Ax.scal at hs
  split at hs
  · cases hR with
    | tup cs arr fv h1 h2 h3 => exact .tup _ arr fv h1 h2 fun i a hi => (h3 i a hi).scal1 (List.all_eq_true.1 hs a (List.mem_of_getElem? hi))
  · cases hR with
    | agg cs arr fv h1 h2 h3 => exact .agg _ arr fv h1 h2 fun i a hi => (h3 i a hi).scal1 (List.all_eq_true.1 hs a (List.mem_of_getElem? hi))
  · exact hR.scal1 hs
theorem AC.lend {E : Env} {f : FuncId} {args argsF : List AV} {M : List AO} {v : AV} (ht : TellL M 0 args argsF) (h : AC E f argsF [] (fun r M' => r = v ∧ M' = [])) (hs : Ax.scal v = true) : AC E f args M (fun r M' => r = v ∧ M' = M) :=
  .lendG ht h fun _ _ _ _ _ _ r => r.scal hs
/-- A row of values that name no memory. -/
theorem AC.lendT {E : Env} {f : FuncId} {args argsF : List AV} {M : List AO} {vs : List AV} (ht : TellL M 0 args argsF) (h : AC E f argsF [] (fun r M' => r = .tup vs ∧ M' = [])) (hs : vs.all Ax.scal = true) : AC E f args M (fun r M' => r = .tup vs ∧ M' = M) :=
  .lendG ht h fun _ _ _ _ _ _ r => by
    cases r with
    | tup cs arr fv h1 h2 h3 => exact .tup _ arr fv h1 h2 fun i a hi => (h3 i a hi).scal (List.all_eq_true.1 hs a (List.mem_of_getElem? hi))
theorem Sh.rel {c' c3 : Ctx} {M' M3 : List AO} {h : Array Obj} {n o : Nat} {cs : List AV} (ho : M'[o]? = some (.mem cs)) (ho3 : M3[n + o]? = some (.mem cs)) (hσ : c3.σ (n + o) = c'.σ o ∧ c3.cap (n + o) = c'.cap o) {a b : AV} (t : Sh n o a b) : ∀ {v : Value}, R c' M' h a v → R c3 M3 h b v := by
  have kn : ∀ g, Known M' o g → Known M3 (n + o) g := fun g hk => by
    obtain ⟨ob, h1, hnr, h2⟩ := hk
    rw [ho] at h1
    obtain rfl := Option.some.inj h1
    exact ⟨_, ho3, hnr, h2⟩
  have cu : ∀ g, Cur M3 (n + o) g → Cur M' o g := fun g hk => by
    obtain ⟨cs', h1, h2⟩ := hk
    rw [ho3] at h1
    injection h1 with h1; injection h1 with h1
    subst h1
    exact ⟨_, ho, h2⟩
  induction t with
  | scal hs => exact fun r => r.scal1 hs
  | sl k off len g =>
    intro v r
    cases r with
    | sl _ _ _ _ _ _ hk h1 hv => exact .sl _ _ _ _ _ _ (kn g hk) h1 fun hc => by rw [hσ.1, hσ.2]; exact hv (cu g hc)
  | ptr off g =>
    intro v r
    cases r with
    | ptr _ _ _ _ hk h1 hv => exact .ptr _ _ _ _ (kn g hk) h1 fun hc => by rw [hσ.1]; exact hv (cu g hc)
  | agg hl hh ih =>
    intro v r
    cases r with
    | agg xs arr fv h1 h2 h3 =>
      refine .agg _ arr fv (by rw [h1, hl]) (fun i hi => h2 i (by rw [hl]; exact hi)) fun i b hb => ?_
      have hlt := (List.getElem?_eq_some_iff.1 hb).1
      exact ih i _ b (List.getElem?_eq_getElem (by rw [hl]; exact hlt)) hb (h3 i _ (List.getElem?_eq_getElem (by rw [hl]; exact hlt)))
  | tup hl hh ih =>
    intro v r
    cases r with
    | tup xs arr fv h1 h2 h3 =>
      refine .tup _ arr fv (by rw [h1, hl]) (fun i hi => h2 i (by rw [hl]; exact hi)) fun i b hb => ?_
      have hlt := (List.getElem?_eq_some_iff.1 hb).1
      exact ih i _ b (List.getElem?_eq_getElem (by rw [hl]; exact hlt)) hb (h3 i _ (List.getElem?_eq_getElem (by rw [hl]; exact hlt)))
/-- A function that answers with one object of its own. -/
theorem AC.lendX {E : Env} {f : FuncId} {args argsF : List AV} {M : List AO} {P : Nat → AV → AV → List AV → Prop} (ht : TellL M 0 args argsF)
    (h : AC E f argsF [] (fun r M' => ∃ o v' cs, P o r v' cs ∧ M'[o]? = some (.mem cs) ∧ (∀ (i : Nat) (a : AV), cs[i]? = some a → scal1 a = true) ∧ Sh M.length o r v')) :
    AC E f args M (fun r M' => ∃ o v cs len, P o v r cs ∧ o < len ∧ M' = M ++ onlyAt M.length len o cs) := by
  refine ⟨h.1, fun c w vs s r => ?_⟩
  have hs0 : SimE E (frozenCtx c M 0) [] w.heap := SimE.drop (M0 := []) (J := M) s (fun o cs ho => by cases ho)
  refine (h.2 _ w vs hs0 (ht.rl s.sim r)).mono ?_
  rintro e w' ⟨r1, v1, M', c', he, ⟨o, v', cs, hP, ho, hc, hv⟩, hf, hw, hs1, hR⟩
  have holt := lt_of_obj ho
  obtain ⟨cur', ty', hb', hsz', hl', hc'⟩ := hs1.sim.live o cs ho
  have hnew : ¬ c'.φ (c'.σ o) := hs1.sim.apart o cs ho
  have hfar : ∀ q cs, M[q]? = some (.mem cs) → c.σ q ≠ c'.σ o := fun q cs hq e => hnew (e ▸ hf.phi _ (Or.inr ⟨q, cs, Nat.zero_le _, hq, rfl⟩))
  have hM3 := onlyAt_get (M := M) (cs := cs) holt
  generalize hJ : onlyAt M.length M'.length o cs = J at hM3
  have up : ∀ q, q < M.length → (M ++ J)[q]? = M[q]? := fun q hq => List.getElem?_append_left hq
  have fr : Fr c M w.heap { σ := fun q => if q < M.length then c.σ q else c'.σ (q - M.length), cap := fun q => if q < M.length then c.cap q else c'.cap (q - M.length), φ := c.φ } (M ++ J) w'.heap :=
    ⟨fun _ h => h, fun b hb => hf.heap b (Or.inl hb), fun q ob hq hnr => by
      have hlt := (List.getElem?_eq_some_iff.1 hq).1
      exact ⟨ob, by rw [up q hlt]; exact hq, hnr, fun cs' e => ⟨cs', e, Nat.le_refl _, fun _ => ⟨if_pos hlt, if_pos hlt⟩⟩⟩⟩
  have hσ : ∀ q, ¬ M.length + q < M.length := fun q => by omega
  have sim : Sim { σ := fun q => if q < M.length then c.σ q else c'.σ (q - M.length), cap := fun q => if q < M.length then c.cap q else c'.cap (q - M.length), φ := c.φ } (M ++ J) w'.heap := by
    have look : ∀ (q : Nat) (cs1 : List AV), (M ++ J)[q]? = some (.mem cs1) → (q < M.length ∧ M[q]? = some (.mem cs1)) ∨ (q = M.length + o ∧ cs1 = cs) := fun q cs1 hq => by
      rcases Nat.lt_or_ge q M.length with hlt | hge
      · exact .inl ⟨hlt, by rw [← up q hlt]; exact hq⟩
      · rw [← hJ] at hq; exact .inr (onlyAt_other hq hge)
    refine ⟨fun q cs1 hq => ?_, fun q q' cs1 cs2 h1 h2 e => ?_, fun q cs1 hq hp => ?_, fun b hb => Nat.lt_of_lt_of_le (s.sim.old b hb) hw.size⟩
    · rcases look q cs1 hq with ⟨hlt, hq⟩ | ⟨rfl, rfl⟩
      · obtain ⟨cur, ty, hb, hsz, hl, hcc⟩ := s.sim.live q cs1 hq
        refine ⟨cur, ty, ?_, by simp only [if_pos hlt]; exact hsz, hl, fun i a hi => ?_⟩
        · simp only [if_pos hlt]
          rw [hf.heap _ (Or.inr ⟨q, cs1, Nat.zero_le _, hq, rfl⟩)]; exact hb
        · obtain ⟨u, hu, hr⟩ := hcc i a hi
          exact ⟨u, hu, hr.mono fr⟩
      · refine ⟨cur', ty', ?_, ?_, hl', fun i a hi => ?_⟩
        · simp only [if_neg (hσ o), Nat.add_sub_cancel_left]; exact hb'
        · simp only [if_neg (hσ o), Nat.add_sub_cancel_left]; exact hsz'
        · obtain ⟨u, hu, hr⟩ := hc' i a hi
          exact ⟨u, hu, hr.scal1 (hc i a hi)⟩
    · rcases look q cs1 h1 with ⟨hlt, h1⟩ | ⟨rfl, rfl⟩ <;> rcases look q' cs2 h2 with ⟨hlt', h2⟩ | ⟨rfl, rfl⟩
      · simp only [if_pos hlt, if_pos hlt'] at e
        exact s.sim.inj q q' cs1 cs2 h1 h2 e
      · simp only [if_pos hlt, if_neg (hσ o), Nat.add_sub_cancel_left] at e
        exact absurd e (hfar q cs1 h1)
      · simp only [if_pos hlt', if_neg (hσ o), Nat.add_sub_cancel_left] at e
        exact absurd e.symm (hfar q' cs2 h2)
      · rfl
    · rcases look q cs1 hq with ⟨hlt, hq⟩ | ⟨rfl, rfl⟩
      · simp only [if_pos hlt] at hp
        exact s.sim.apart q cs1 hq hp
      · simp only [if_neg (hσ o), Nat.add_sub_cancel_left] at hp
        exact hnew (hf.phi _ (Or.inl hp))
  exact ⟨v', v1, M ++ J, _, he, ⟨o, r1, cs, M'.length, hP, holt, by rw [hJ]⟩, fr, hw, s.mk' fr sim, hv.rel ho hM3 ⟨by simp only [if_neg (hσ o), Nat.add_sub_cancel_left], by simp only [if_neg (hσ o), Nat.add_sub_cancel_left]⟩ hR⟩
theorem AC.lend1 {E : Env} {f : FuncId} {args argsF : List AV} {M : List AO} {o : Nat} {v v' : AV} {cs : List AV} (ht : TellL M 0 args argsF) (h : AC E f argsF [] (fun r M' => r = v ∧ M'[o]? = some (.mem cs))) (hc : ∀ (i : Nat) (a : AV), cs[i]? = some a → scal1 a = true) (hv : Sh M.length o v v') :
    AC E f args M (fun r M' => r = v' ∧ ∃ len, o < len ∧ M' = M ++ onlyAt M.length len o cs) :=
  (AC.lendX (P := fun o' _ r cs' => o' = o ∧ r = v' ∧ cs' = cs) ht (h.mono fun r M' ⟨h1, h2⟩ => ⟨o, v', cs, ⟨rfl, rfl, rfl⟩, h2, hc, by rw [h1]; exact hv⟩)).mono fun r M' ⟨o', _, cs', len, ⟨h1, h2, h3⟩, h4, h5⟩ => by
    subst h1; subst h3
    exact ⟨h2, len, h4, h5⟩
end Go.Ax
