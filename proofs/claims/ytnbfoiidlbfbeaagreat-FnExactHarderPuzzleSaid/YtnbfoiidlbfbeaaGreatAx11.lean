/- Regions that draw their order: what they compute does not hang on it. -/
import Derived.Test.YtnbfoiidlbfbeaaGreatAx10
import Derived.StillTail
set_option linter.unusedVariables false
set_option linter.unusedSimpArgs false
namespace Go.Ax
open Go.RowKit (Below)

/-! ### What an operation asks hangs on its operands alone -/
theorem bdA_congr {E : Env} {T T' : Tm} {x : Option Operand} (h : ∀ y ∈ x.toArray, ev E T y = ev E T' y) (d : Int) : bdA E T x d = bdA E T' x d := by
  cases x with
  | none => rfl
  | some y => simp only [bdA]; rw [h y (by simp)]
theorem callA_congr {E : Env} {T T' : Tm} {M : List AO} {N : AV → List AO → Prop} {b : Builtin} {args : List Operand} {ts : List TypeId} (h : ∀ x ∈ args, ev E T x = ev E T' x) : callA E T M N (.builtin b) args ts = callA E T' M N (.builtin b) args ts := by
  match args with
  | [] => unfold callA; cases b <;> rfl
  | [x] =>
    have hx := h x (by simp)
    unfold callA
    cases b <;> first | rfl | (match ts with
      | [] => rfl
      | [t] => simp only [hx]
      | _ :: _ :: _ => rfl)
  | [x, y] =>
    have hx := h x (by simp)
    have hy := h y (by simp)
    unfold callA
    cases b <;> first | rfl | (match ts with
      | [] => simp only [hx, hy]
      | [t] => simp only [hx, hy]
      | [t, t'] => simp only [hx, hy]
      | _ :: _ :: _ :: _ => simp only [hx, hy])
  | _ :: _ :: _ :: _ => unfold callA; cases b <;> rfl
theorem opA_congr {E : Env} {T T' : Tm} {M : List AO} {N : AV → List AO → Prop} {op : Op} (h : ∀ x ∈ op.operands, ev E T x = ev E T' x) (ha : opA E T M N op) : opA E T' M N op := by
  have e : opA E T M N op = opA E T' M N op := by
    cases op with
    | makeFunc fn first caps =>
      have hc : caps.toList.map (ev E T) = caps.toList.map (ev E T') := List.map_congr_left fun x hx => h x (by simp only [Op.operands, Array.mem_append]; right; simpa using hx)
      cases fn <;> simp only [opA, hc]
    | buildSlice t len parts =>
      have hc : (parts.toList.map fun p => (p.1, ev E T p.2)) = (parts.toList.map fun p => (p.1, ev E T' p.2)) := List.map_congr_left fun p hp => by
        rw [h p.2 (by simp only [Op.operands, List.mem_toArray, List.mem_map]; exact ⟨p, hp, rfl⟩)]
      simp only [opA, hc]
    | build t parts =>
      have hc : (parts.toList.map fun p => (p.1, ev E T p.2)) = (parts.toList.map fun p => (p.1, ev E T' p.2)) := List.map_congr_left fun p hp => by
        rw [h p.2 (by simp only [Op.operands, List.mem_toArray, List.mem_map]; exact ⟨p, hp, rfl⟩)]
      simp only [opA, hc]
    | slice t x lo hi mx =>
      have hx : ev E T x = ev E T' x := h x (by simp [Op.operands])
      have hl : ∀ d, bdA E T lo d = bdA E T' lo d := bdA_congr fun y hy => h y (by simp only [Op.operands, Array.mem_append]; exact .inl (.inl (.inr hy)))
      have hh : ∀ d, bdA E T hi d = bdA E T' hi d := bdA_congr fun y hy => h y (by simp only [Op.operands, Array.mem_append]; exact .inl (.inr hy))
      cases mx with
      | none => simp only [opA, hx, hl, hh]
      | some m =>
        have hm : ev E T m = ev E T' m := h m (by simp [Op.operands])
        cases lo with
        | none => rfl
        | some l =>
          have hl' : ev E T l = ev E T' l := h l (by simp [Op.operands])
          cases hi with
          | none => rfl
          | some u =>
            have hu : ev E T u = ev E T' u := h u (by simp [Op.operands])
            simp only [opA, hx, hl', hu, hm]
    | call c =>
      obtain ⟨cl, args, ts⟩ := c
      have hargs : ∀ x ∈ args, ev E T x = ev E T' x := fun x hx => h x (by simp only [Op.operands, Call.operands, Array.mem_append]; exact .inr hx)
      have hm : args.toList.map (ev E T) = args.toList.map (ev E T') := List.map_congr_left fun x hx => hargs x (by simpa using hx)
      cases cl with
      | value f =>
        have hf : ev E T f = ev E T' f := h f (by simp [Op.operands, Call.operands])
        simp only [opA, callA, hf, hm]
      | invoke r m => simp only [opA, callA]
      | builtin b =>
        simp only [opA]
        exact callA_congr fun x hx => hargs x (by simpa using hx)
    | move x => simp only [opA, h x (by simp [Op.operands])]
    | assign x => simp only [opA, h x (by simp [Op.operands])]
    | pick c x y => simp only [opA, h c (by simp [Op.operands]), h x (by simp [Op.operands]), h y (by simp [Op.operands])]
    | alloc t => rfl
    | box t x => simp only [opA, h x (by simp [Op.operands])]
    | load t x => simp only [opA, h x (by simp [Op.operands])]
    | store t x y => simp only [opA, h x (by simp [Op.operands]), h y (by simp [Op.operands])]
    | nilCheck x => simp only [opA, h x (by simp [Op.operands])]
    | binOp op t x y yt => simp only [opA, h x (by simp [Op.operands]), h y (by simp [Op.operands])]
    | unOp op t x => cases op <;> simp only [opA, h x (by simp [Op.operands])]
    | convert t t' x => simp only [opA, h x (by simp [Op.operands])]
    | fieldAddr t x f => simp only [opA, h x (by simp [Op.operands])]
    | field t x f => simp only [opA, h x (by simp [Op.operands])]
    | indexAddr t x y => simp only [opA, h x (by simp [Op.operands]), h y (by simp [Op.operands])]
    | makeSlice t x y => simp only [opA, h x (by simp [Op.operands]), h y (by simp [Op.operands])]
    | index t x y => simp only [opA, h x (by simp [Op.operands]), h y (by simp [Op.operands])]
    | extract x i => simp only [opA, h x (by simp [Op.operands])]
    | _ => simp only [opA]
  rw [← e]; exact ha

/-! ### What is made and frozen at once -/
theorem OpOk.drop {E : Env} {sz : Nat} {o : Oper} {T : Tm} {M : List AO} {N : AV → List AO → Prop} (h : OpOk E sz o T M fun r M1 => ∃ J r', M1 = M ++ J ∧ Tell M1 M.length r r' ∧ N r' M) : OpOk E sz o T M N := by
  intro c a w next Q s k
  refine h c a w next Q s ?_
  rintro r v M1 c1 w1 ⟨J, r', rfl, ht, hN⟩ hf hw hs hR
  have hcl := s.sim.sim.cl
  exact k r' v M _ w1 hN (((hf.toN M.length).trans (hs.sim.drop hcl (Nat.le_refl _)).1).full (Nat.le_refl _)) hw (hs.drop hcl) (hR.tell' hs.sim ht)

/-- A row's elements out of its cells. -/
def chunkA (k : Nat) : Nat → List AV → List AV
  | 0, _ => []
  | n + 1, cs => (if k = 1 then cs.headD .any else .agg (cs.take k)) :: chunkA k n (cs.drop k)
def sizesA (k : Nat) : List AV → Prop
  | [] => True
  | x :: xs => x.cells.length = k ∧ sizesA k xs
theorem sizesA_mem {k : Nat} : ∀ {xs : List AV}, sizesA k xs → ∀ x ∈ xs, x.cells.length = k
  | [], _, x, hx => by cases hx
  | y :: ys, h, x, hx => by
    cases hx with
    | head => exact h.1
    | tail _ hx => exact sizesA_mem h.2 x hx
def litA (E : Env) (T : Tm) (s : AV) (t : TypeId) (len : Nat) (parts : List (Nat × Operand)) : Prop := match E.tab t with
  | some (.sl e k by' ez) => len * k ≤ 16777216 ∧ (match fillA (fun i => some (i * k, k)) (zerosA ez len) (parts.map fun p => (p.1, ev E T p.2)) with
    | some cs => sizesA k (chunkA k len cs) ∧ flat (chunkA k len cs) = cs ∧ .fz k (chunkA k len cs) = s
    | none => False)
  | _ => False
theorem chunkA_length (k : Nat) : ∀ n cs, (chunkA k n cs).length = n
  | 0, _ => rfl
  | n + 1, cs => by simp [chunkA, chunkA_length k n]
theorem litA_congr {E : Env} {T T' : Tm} {s : AV} {t : TypeId} {len : Nat} {parts : List (Nat × Operand)} (h : ∀ p ∈ parts, ev E T p.2 = ev E T' p.2) (hl : litA E T s t len parts) : litA E T' s t len parts := by
  have hc : (parts.map fun p => (p.1, ev E T p.2)) = (parts.map fun p => (p.1, ev E T' p.2)) := List.map_congr_left fun p hp => by rw [h p hp]
  unfold litA at hl ⊢
  rw [← hc]; exact hl
theorem tell_any_of_cl {M : List AO} {n : Nat} {a : AV} (h : Cl n a) : Tell M n a a := .same a h
theorem lit_ok {E : Env} {sz : Nat} {T : Tm} {M : List AO} {N : AV → List AO → Prop} {dst : Option Tmp} {ty : TypeId} {pos : String} {after : Array Edge} {gd : Option (Nat × Bool)} (t : TypeId) (len : Nat) (parts : Array (Nat × Operand)) (s : AV)
    (h : litA E T s t len parts.toList) (hN : N s M) : OpOk E sz ⟨dst, .buildSlice t len parts, ty, pos, after, gd⟩ T M N := by
  unfold litA at h
  split at h
  · rename_i e k b z ht
    obtain ⟨hl, h⟩ := h
    split at h
    · rename_i cs hcs
      obtain ⟨h1, h2, rfl⟩ := h
      intro c a w next Q s k2
      refine OpOk.drop (N := N) (ok_buildSlice t e len k b z parts ht (by simpa using hl) cs hcs ?_) c a w next Q s k2
      have hM := s.sim.sim.cl
      refine ⟨[.mem cs], .fz k (chunkA k len cs), rfl, ?_, hN⟩
      have hk := sizesA_mem h1
      have hfl := flat_length hk
      have hcl : ∀ (i : Nat) (b : AV), (flat (chunkA k len cs))[i]? = some b → Cl M.length b := by
        intro i b hb
        rw [h2] at hb
        obtain ⟨hpl, hpp⟩ := parts_R s parts
        have hevs : ∀ p ∈ parts.toList, Cl M.length (ev E T p.2) := fun p _ => (ev_R s p.2).cl
        have hz : ∀ x ∈ zerosA z len, Cl M.length x := by
          intro x hx
          simp only [zerosA, List.mem_flatten, List.mem_replicate] at hx
          obtain ⟨l, ⟨_, rfl⟩, hx⟩ := hx
          obtain ⟨v, _, rfl⟩ := List.mem_map.1 hx
          exact (ofV_R c M w.heap v).cl
        have key : ∀ (ps : List (Nat × AV)) (cells r : List AV), (∀ p ∈ ps, Cl M.length p.2) → (∀ x ∈ cells, Cl M.length x) → fillA (fun i => some (i * k, k)) cells ps = some r → ∀ x ∈ r, Cl M.length x := by
          intro ps
          induction ps with
          | nil => intro cells r _ hc hf; injection hf with hf; subst hf; exact hc
          | cons p rest ih =>
            intro cells r hp hc hf
            simp only [fillA] at hf
            split at hf
            · rename_i hcond
              refine ih _ _ (fun q hq => hp q (List.mem_cons_of_mem _ hq)) (fun x hx => ?_) hf
              simp only [putA', List.mem_append] at hx
              rcases hx with (hx | hx) | hx
              · exact hc x (List.mem_of_mem_take hx)
              · have hp0 := hp p (List.mem_cons_self ..)
                revert hx hp0
                cases p.2 <;> intro hx hp0 <;> simp only [AV.cells, List.mem_cons, List.not_mem_nil, or_false] at hx <;> first
                  | (subst hx; exact hp0)
                  | (cases hp0 with | agg _ hh => obtain ⟨q, hq, rfl⟩ := List.getElem_of_mem hx; exact hh q _ (List.getElem?_eq_getElem hq))
              · exact hc x (List.mem_of_mem_drop hx)
            · cases hf
        obtain ⟨hlt, rfl⟩ := List.getElem?_eq_some_iff.1 hb
        exact key _ _ _ (fun p hp => by
          obtain ⟨q, hq, rfl⟩ := List.mem_map.1 hp
          exact hevs q hq) hz hcs _ (List.getElem_mem hlt)
      refine .row k M.length 0 len (len * k) cs (chunkA k len cs) (by simp) (Nat.le_refl _) (by rw [← h2, hfl, chunkA_length]) (chunkA_length ..) hk (fun i => (flat (chunkA k len cs)).getD i .any) (fun i b hb => ?_) (fun i b hb => ?_)
      · have e1 : (flat (chunkA k len cs)).getD i .any = b := by rw [List.getD_eq_getElem?_getD, hb]; rfl
        rw [e1, Nat.zero_add]
        rw [h2] at hb; exact hb
      · have : (flat (chunkA k len cs)).getD i .any = b := by rw [List.getD_eq_getElem?_getD, hb]; rfl
        rw [this]
        exact .same b (hcl i b hb)
    · exact h.elim
  · exact h.elim

/-! ### The rule -/
def opD (E : Env) (T : Tm) (M : List AO) (s : AV) (M1 : List AO) (eff : Bool) (op : Op) : Prop := match op with
  | .buildSlice t len parts => if eff = true then opA E T M (fun r M' => r = s ∧ M' = M1) (.buildSlice t len parts) else litA E T s t len parts.toList ∧ M = M1
  | op => opA E T M (fun r M' => r = s ∧ M' = M1) op
def detA (E : Env) (ds : List (Option Tmp)) (T : Tm) (M : List AO) (s : AV) (M1 : List AO) (eff : Bool) (o : Oper) : Prop := match o.guard with
  | none => opD E T M s M1 eff o.op
  | some g => gA (guardA ds T (some g)) (opD E T M s M1 eff o.op) (.any = s ∧ M = M1)
def allP : List (List AO → Prop) → List AO → Prop
  | [], _ => True
  | p :: l, M => p M ∧ allP l M
def allM : List (List AO) → (List AO → Prop) → Prop
  | [], _ => True
  | M :: l, f => f M ∧ allM l f
theorem allP_mem : ∀ {l : List (List AO → Prop)} {M : List AO}, allP l M → ∀ p ∈ l, p M
  | [], _, _, p, hp => by cases hp
  | q :: l, M, h, p, hp => by
    cases hp with
    | head => exact h.1
    | tail _ hp => exact allP_mem h.2 p hp
theorem allM_mem : ∀ {l : List (List AO)} {f : List AO → Prop}, allM l f → ∀ M ∈ l, f M
  | [], _, _, p, hp => by cases hp
  | q :: l, M, h, p, hp => by
    cases hp with
    | head => exact h.1
    | tail _ hp => exact allM_mem h.2 p hp
/-- Classes: 0 plain, 1 with an effect on the memory, 2 free of the memory, 3 true at every stage of the memory. Behind the last class: in a row. -/
def drawA (E : Env) (sz : Nat) (ds : List (Option Tmp)) (Q : Tm → List AO → Prop) : List Nat → List Oper → Tm → List AO → List (List AO) → List (List AO → Prop) → Prop
  | [], l, T, M, _, _ => alA E sz ds Q l T M
  | _ :: _, [], _, _, _, _ => False
  | 0 :: cl, o :: l, T, M, H, Pd => fits sz o.dst ∧ ∃ s, detA E ds T M s M false o ∧ drawA E sz ds Q cl l (putA T o.dst s) M H Pd
  | 1 :: cl, o :: l, T, M, H, Pd => fits sz o.dst ∧ ∃ M1 s, detA E ds T M s M1 true o ∧ allP Pd M1 ∧ drawA E sz ds Q cl l (putA T o.dst s) M1 (M :: H) Pd
  | 2 :: cl, o :: l, T, M, H, Pd => fits sz o.dst ∧ ∃ s, (∀ M', detA E ds T M' s M' false o) ∧ drawA E sz ds Q cl l (putA T o.dst s) M H Pd
  | _ :: cl, o :: l, T, M, H, Pd => fits sz o.dst ∧ ∃ s, detA E ds T M s M false o ∧ allM H (fun M' => detA E ds T M' s M' false o) ∧ drawA E sz ds Q cl l (putA T o.dst s) M H ((fun M' => detA E ds T M' s M' false o) :: Pd)

/-- What the text's order comes to. -/
structure Plan (sz : Nat) (D : Tm → List AO → AV → List AO → Bool → Oper → Prop) (F : List Oper → Tm → List AO → Prop) (cl : List Nat) (l : List Oper) (T : Tm) (M : List AO) (H : List (List AO)) (Pd : List (List AO → Prop)) (sv : Nat → AV) (Tt : Nat → Tm) (Mt : Nat → List AO) : Prop where
  len : cl.length ≤ l.length
  t0 : Tt 0 = T
  m0 : Mt 0 = M
  step : ∀ (j : Nat) (o : Oper) (c : Nat), cl[j]? = some c → l[j]? = some o → fits sz o.dst ∧ Tt (j + 1) = putA (Tt j) o.dst (sv j) ∧ (c ≠ 1 → Mt (j + 1) = Mt j ∧ D (Tt j) (Mt j) (sv j) (Mt j) false o) ∧ (c = 1 → D (Tt j) (Mt j) (sv j) (Mt (j + 1)) true o) ∧
    (c = 2 → ∀ M', D (Tt j) M' (sv j) M' false o) ∧ (3 ≤ c → (∀ M' ∈ H, D (Tt j) M' (sv j) M' false o) ∧ ∀ k, k ≤ cl.length → D (Tt j) (Mt k) (sv j) (Mt k) false o)
  pend : ∀ p ∈ Pd, ∀ k, k ≤ cl.length → p (Mt k)
  fin : F (l.drop cl.length) (Tt cl.length) (Mt cl.length)

theorem Plan.cons {sz : Nat} {D : Tm → List AO → AV → List AO → Bool → Oper → Prop} {F : List Oper → Tm → List AO → Prop} {c : Nat} {cl : List Nat} {o : Oper} {l : List Oper} {T : Tm} {M M1 : List AO} {H H' : List (List AO)} {Pd Pd' : List (List AO → Prop)} {s : AV} {sv : Nat → AV} {Tt : Nat → Tm} {Mt : Nat → List AO}
    (p : Plan sz D F cl l (putA T o.dst s) M1 H' Pd' sv Tt Mt) (hf : fits sz o.dst) (h1 : c ≠ 1 → M1 = M ∧ D T M s M false o) (h2 : c = 1 → D T M s M1 true o) (h3 : c = 2 → ∀ M', D T M' s M' false o)
    (h4 : 3 ≤ c → (∀ M' ∈ H, D T M' s M' false o) ∧ (fun M' => D T M' s M' false o) ∈ Pd') (hH : ∀ x ∈ H, x ∈ H') (hM : M = M1 ∨ M ∈ H') (hP : ∀ q ∈ Pd, q ∈ Pd') (hP0 : ∀ q ∈ Pd, q M) :
    Plan sz D F (c :: cl) (o :: l) T M H Pd (fun j => match j with | 0 => s | j + 1 => sv j) (fun j => match j with | 0 => T | j + 1 => Tt j) (fun j => match j with | 0 => M | j + 1 => Mt j) := by
  refine ⟨by simpa using p.len, rfl, rfl, ?_, ?_, ?_⟩
  · intro j o' c' hc ho
    cases j with
    | zero =>
      simp only [List.getElem?_cons_zero, Option.some.injEq] at hc ho
      subst hc; subst ho
      refine ⟨hf, p.t0, fun hne => ⟨by show Mt 0 = M; rw [p.m0]; exact (h1 hne).1, (h1 hne).2⟩, fun he => ?_, h3, fun h => ⟨(h4 h).1, ?_⟩⟩
      · show D T M s (Mt 0) true o
        rw [p.m0]; exact h2 he
      · intro k hk
        cases k with
        | zero => exact (h1 (by omega)).2
        | succ k => exact p.pend _ (h4 h).2 k (by simpa using hk)
    | succ j =>
      simp only [List.getElem?_cons_succ] at hc ho
      obtain ⟨q1, q2, q3, q4, q5, q6⟩ := p.step j o' c' hc ho
      refine ⟨q1, q2, q3, q4, q5, fun h => ⟨fun M' hM' => (q6 h).1 M' (hH M' hM'), fun k hk => ?_⟩⟩
      cases k with
      | zero =>
        rcases hM with hM | hM
        · have := (q6 h).2 0 (Nat.zero_le _)
          rw [p.m0] at this
          show D (Tt j) M (sv j) M false o'
          rw [hM]; exact this
        · exact (q6 h).1 M hM
      | succ k => exact (q6 h).2 k (by simpa using hk)
  · intro q hq k hk
    cases k with
    | zero => exact hP0 q hq
    | succ k => exact p.pend q (hP q hq) k (by simpa using hk)
  · simpa using p.fin

theorem drawA_plan {E : Env} {sz : Nat} {ds : List (Option Tmp)} {Q : Tm → List AO → Prop} : ∀ (cl : List Nat) (l : List Oper) (T : Tm) (M : List AO) (H : List (List AO)) (Pd : List (List AO → Prop)), drawA E sz ds Q cl l T M H Pd → (∀ p ∈ Pd, p M) →
    ∃ sv Tt Mt, Plan sz (detA E ds) (alA E sz ds Q) cl l T M H Pd sv Tt Mt
  | [], l, T, M, H, Pd, h, hp => ⟨fun _ => .any, fun _ => T, fun _ => M, ⟨Nat.zero_le _, rfl, rfl, fun j o c hc _ => by simp at hc, fun p hp' k _ => hp p hp', by simpa [drawA] using h⟩⟩
  | c :: _, [], _, _, _, _, h, _ => by match c, h with | 0, h => exact h.elim | 1, h => exact h.elim | 2, h => exact h.elim | n + 3, h => exact h.elim
  | 0 :: cl, o :: l, T, M, H, Pd, ⟨hf, s, hd, h⟩, hp => by
    obtain ⟨sv, Tt, Mt, p⟩ := drawA_plan cl l _ _ _ _ h hp
    exact ⟨_, _, _, p.cons hf (fun _ => ⟨rfl, hd⟩) (fun e => by cases e) (fun e => by cases e) (fun e => absurd e (by decide)) (fun _ h => h) (.inl rfl) (fun _ h => h) hp⟩
  | 1 :: cl, o :: l, T, M, H, Pd, ⟨hf, M1, s, hd, hP, h⟩, hp => by
    obtain ⟨sv, Tt, Mt, p⟩ := drawA_plan cl l _ _ _ _ h (allP_mem hP)
    exact ⟨_, _, _, p.cons hf (fun e => absurd rfl e) (fun _ => hd) (fun e => by cases e) (fun e => absurd e (by decide)) (fun _ h => List.mem_cons_of_mem _ h) (.inr (List.mem_cons_self ..)) (fun _ h => h) hp⟩
  | 2 :: cl, o :: l, T, M, H, Pd, ⟨hf, s, hd, h⟩, hp => by
    obtain ⟨sv, Tt, Mt, p⟩ := drawA_plan cl l _ _ _ _ h hp
    exact ⟨_, _, _, p.cons hf (fun _ => ⟨rfl, hd M⟩) (fun e => by cases e) (fun _ => hd) (fun e => absurd e (by decide)) (fun _ h => h) (.inl rfl) (fun _ h => h) hp⟩
  | (n + 3) :: cl, o :: l, T, M, H, Pd, ⟨hf, s, hd, hH, h⟩, hp => by
    obtain ⟨sv, Tt, Mt, p⟩ := drawA_plan cl l _ _ _ _ h (fun q hq => by
      cases hq with
      | head => exact hd
      | tail _ hq => exact hp q hq)
    exact ⟨_, _, _, p.cons hf (fun _ => ⟨rfl, hd⟩) (fun e => absurd e (by omega)) (fun e => absurd e (by omega)) (fun _ => ⟨allM_mem hH, List.mem_cons_self ..⟩) (fun _ h => h) (.inl rfl) (fun _ h => List.mem_cons_of_mem _ h) hp⟩

/-! ### Any order -/
def okc (a b : Nat) : Bool := !(a == 1 && (b == 0 || b == 1)) && !(b == 1 && (a == 0 || a == 1))
def maskOf (masks : List Nat) (o : Oper) : Nat := o.after.toList.foldl (fun m e => if Region.binds .any e then m ||| (1 <<< e.on) ||| masks.getD e.on 0 else m) 0
def drawOk (l : List Oper) (cl masks : List Nat) : Bool :=
  decide (cl.length ≤ l.length) &&
  ((List.range l.length).all fun j => match l[j]? with
    | some o => (o.after.toList.all fun e => !Region.binds .any e || decide (e.on < j)) && masks.getD j 0 == maskOf masks o && (decide (j < cl.length) || (List.range cl.length).all fun i => (masks.getD j 0).testBit i)
    | none => false) &&
  ((List.range cl.length).all fun j => (List.range j).all fun i => match l[i]?, l[j]? with
    | some oi, some oj => (oi.dst.isNone || oi.dst != oj.dst) && ((masks.getD j 0).testBit i || (oi.apart l.toArray oj && okc (cl.getD i 0) (cl.getD j 0)))
    | _, _ => false) &&
  Region.seqB .any l.toArray (l.length - cl.length) cl.length (Array.replicate cl.length true ++ Array.replicate (l.length - cl.length) false)

section
variable {l : List Oper} {cl masks : List Nat}
theorem fold_bit {masks : List Nat} {i : Nat} : ∀ (es : List Edge) (m : Nat), (es.foldl (fun m e => if Region.binds .any e then m ||| (1 <<< e.on) ||| masks.getD e.on 0 else m) m).testBit i = true →
    m.testBit i = true ∨ ∃ e ∈ es, Region.binds .any e = true ∧ (i = e.on ∨ (masks.getD e.on 0).testBit i = true)
  | [], m, h => .inl h
  | e :: es, m, h => by
    rw [List.foldl_cons] at h
    rcases fold_bit es _ h with h | ⟨e', he, hb, hi⟩
    · split at h
      · rename_i hb
        rw [Nat.testBit_or, Nat.testBit_or, Bool.or_eq_true, Bool.or_eq_true] at h
        rcases h with (h | h) | h
        · exact .inl h
        · refine .inr ⟨e, List.mem_cons_self .., hb, .inl ?_⟩
          rw [Nat.one_shiftLeft, Nat.testBit_two_pow] at h
          simp at h; exact h.symm
        · exact .inr ⟨e, List.mem_cons_self .., hb, .inr h⟩
      · exact .inl h
    · exact .inr ⟨e', List.mem_cons_of_mem _ he, hb, hi⟩

structure DrawOk (l : List Oper) (cl masks : List Nat) : Prop where
  len : cl.length ≤ l.length
  back : ∀ j o, l[j]? = some o → ∀ e ∈ o.after, Region.binds .any e = true → e.on < j
  mask : ∀ j o i, l[j]? = some o → (masks.getD j 0).testBit i = true → ∃ e ∈ o.after, Region.binds .any e = true ∧ (i = e.on ∨ (masks.getD e.on 0).testBit i = true)
  tail : ∀ j, cl.length ≤ j → j < l.length → ∀ i, i < cl.length → (masks.getD j 0).testBit i = true
  pair : ∀ i j oi oj, i < j → j < cl.length → l[i]? = some oi → l[j]? = some oj → (∀ d, oi.dst = some d → oj.dst ≠ some d) ∧ ((masks.getD j 0).testBit i = true ∨ (oi.apart l.toArray oj = true ∧ okc (cl.getD i 0) (cl.getD j 0) = true))
  seq : Region.seqB .any l.toArray (l.length - cl.length) cl.length (Array.replicate cl.length true ++ Array.replicate (l.length - cl.length) false) = true
theorem drawOk_spec (h : drawOk l cl masks = true) : DrawOk l cl masks := by
  simp only [drawOk, Bool.and_eq_true, decide_eq_true_eq] at h
  obtain ⟨⟨⟨h0, h1⟩, h2⟩, h3⟩ := h
  rw [List.all_eq_true] at h1 h2
  have at1 : ∀ j o, l[j]? = some o → (∀ e ∈ o.after, Region.binds .any e = true → e.on < j) ∧ masks.getD j 0 = maskOf masks o ∧ (j < cl.length ∨ ∀ i, i < cl.length → (masks.getD j 0).testBit i = true) := by
    intro j o ho
    have := h1 j (List.mem_range.2 (List.getElem?_eq_some_iff.1 ho).1)
    rw [ho] at this
    simp only [Bool.and_eq_true, Bool.or_eq_true, decide_eq_true_eq, List.all_eq_true, List.mem_range, beq_iff_eq] at this
    obtain ⟨⟨a, b⟩, c⟩ := this
    refine ⟨fun e he hb => ?_, b, c⟩
    rcases a e (by simpa using he) with h | h
    · rw [hb] at h; cases h
    · exact h
  refine ⟨h0, fun j o ho => (at1 j o ho).1, fun j o i ho hi => ?_, fun j hj hjl i hi => ?_, fun i j oi oj hij hj hoi hoj => ?_, h3⟩
  · rw [(at1 j o ho).2.1] at hi
    rcases fold_bit _ _ hi with h | ⟨e, he, hb, hi⟩
    · simp at h
    · exact ⟨e, by simpa using he, hb, hi⟩
  · obtain ⟨o, ho⟩ : ∃ o, l[j]? = some o := ⟨l[j], List.getElem?_eq_getElem hjl⟩
    rcases (at1 j o ho).2.2 with h | h
    · omega
    · exact h i hi
  · have := h2 j (List.mem_range.2 hj)
    rw [List.all_eq_true] at this
    have := this i (List.mem_range.2 hij)
    rw [hoi, hoj] at this
    simp only [Bool.and_eq_true, Bool.or_eq_true, Option.isNone_iff_eq_none, bne_iff_ne, ne_eq] at this
    refine ⟨fun d hd hd2 => ?_, this.2⟩
    rcases this.1 with h | h
    · rw [h] at hd; cases hd
    · exact h (hd.trans hd2.symm)
end
end Go.Ax
