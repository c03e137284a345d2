/- Rows that last, and what clones, cuts and looks for them. -/
import Derived.Test.YtnbfoiidlbfbeaaGreatP1
set_option linter.unusedVariables false
set_option linter.unusedSimpArgs false
namespace Go.Ax
open Go.Proofs

/-- What was made behind M is frozen. -/
theorem AC.freeze {E : Env} {f : FuncId} {args : List AV} {M : List AO} {Q : AV → List AO → Prop} (h : AC E f args M fun r M1 => ∃ J r', M1 = M ++ J ∧ Tell M1 M.length r r' ∧ Q r' M) : AC E f args M Q :=
  ⟨h.1, fun c w vs s r => (h.2 c w vs s r).mono fun e w' ⟨r1, v, M', c', he, ⟨J, r', hM, ht, hQ⟩, hf, hw, hs, hR⟩ => by
    subst hM
    have hcl := s.sim.cl
    exact ⟨r', v, M, _, he, hQ, ((hf.toN M.length).trans (hs.sim.drop hcl (Nat.le_refl _)).1).full (Nat.le_refl _), hw, hs.drop hcl, hR.tell' hs.sim ht⟩⟩
theorem ClM.push {M : List AO} {cs : List AV} (h : ClM M) (hc : ∀ (i : Nat) (a : AV), cs[i]? = some a → Cl (M.length + 1) a) : ClM (M ++ [.mem cs]) := by
  intro o cs' ho i a hi
  have e : (M ++ [AO.mem cs]).length = M.length + 1 := by simp
  rw [e]
  rcases Nat.lt_or_ge o M.length with hlt | hge
  · rw [List.getElem?_append_left hlt] at ho
    exact (h o cs' ho i a hi).mono (by omega)
  · have hlt2 := (List.getElem?_eq_some_iff.1 ho).1
    have : o = M.length := by simp at hlt2; omega
    subst this
    simp at ho
    subst ho
    exact hc i a hi
/-- A slice of the call's own, made behind M: nil, or a row. -/
def Row (k : Nat) (xs : List AV) (M : List AO) (r : AV) (M' : List AO) : Prop := (xs = [] ∧ r = .nils ∧ M' = M) ∨ (r = .sl k M.length 0 xs.length (xs.length * k) ∧ M' = M ++ [.mem (flat xs)])
/-- Elements of k cells that name no memory behind n. -/
structure Els (k n : Nat) (xs : List AV) : Prop where
  size : ∀ x ∈ xs, x.cells.length = k
  cl : ∀ (i : Nat) (b : AV), (flat xs)[i]? = some b → Cl n b
theorem Els.mono {k n m : Nat} {xs : List AV} (h : Els k n xs) (hn : n ≤ m) : Els k m xs := ⟨h.size, fun i b hb => (h.cl i b hb).mono hn⟩
theorem Els.ints (n : Nat) (xs : List Int) : Els 1 n (ints xs) := ⟨fun x hx => by
    simp only [Go.Ax.ints, List.mem_map] at hx
    obtain ⟨y, _, rfl⟩ := hx; rfl, fun i b hb => by
    rw [flat_ints] at hb
    simp only [Go.Ax.ints, List.getElem?_map] at hb
    obtain ⟨x, _, rfl⟩ := Option.map_eq_some_iff.1 hb
    exact .int _ _⟩
theorem tell_at {M' : List AO} {n k o : Nat} {xs : List AV} (ho : M'[o]? = some (.mem (flat xs))) (hn : n ≤ o) (h : Els k n xs) : Tell M' n (.sl k o 0 xs.length (xs.length * k)) (.fz k xs) := by
  have hfl := flat_length h.size
  refine .row k o 0 xs.length (xs.length * k) (flat xs) xs ho hn hfl rfl h.size (fun i => (flat xs).getD i .any) (fun i b hb => ?_) (fun i b hb => ?_)
  · have e1 : (flat xs).getD i .any = b := by rw [List.getD_eq_getElem?_getD, hb]; rfl
    rw [e1, Nat.zero_add]; exact hb
  · have e1 : (flat xs).getD i .any = b := by rw [List.getD_eq_getElem?_getD, hb]; rfl
    rw [e1]; exact .same b (h.cl i b hb)
theorem tell_row {M J : List AO} {k : Nat} {xs : List AV} (h : Els k M.length xs) : Tell (M ++ .mem (flat xs) :: J) M.length (.sl k M.length 0 xs.length (xs.length * k)) (.fz k xs) := tell_at (by simp) (Nat.le_refl _) h
theorem tell_ints {M' : List AO} {n o : Nat} {xs : List Int} (ho : M'[o]? = some (.mem (ints xs))) (hn : n ≤ o) : Tell M' n (.sl 1 o 0 xs.length xs.length) (.fz 1 (ints xs)) := by
  have := tell_at (M' := M') (n := n) (k := 1) (o := o) (xs := ints xs) (by rw [flat_ints]; exact ho) hn (.ints n xs)
  rwa [ints_length, Nat.mul_one] at this
theorem Row.frozen {M M' : List AO} {k : Nat} {xs : List AV} {r : AV} (h : Row k xs M r M') (he : Els k M.length xs) : ∃ J r', M' = M ++ J ∧ Tell M' M.length r r' ∧ r' = .fz k xs ∧ M = M := by
  rcases h with ⟨rfl, rfl, rfl⟩ | ⟨rfl, rfl⟩
  · exact ⟨[], _, by simp, .nil k, rfl, rfl⟩
  · exact ⟨[.mem (flat xs)], _, rfl, tell_row he, rfl, rfl⟩
theorem Row.cl {M M' : List AO} {k : Nat} {xs : List AV} {r : AV} (h : Row k xs M r M') (hcl : ClM M) (he : Els k M.length xs) : ClM M' ∧ M.length ≤ M'.length ∧ Cl M'.length r := by
  rcases h with ⟨rfl, rfl, rfl⟩ | ⟨rfl, rfl⟩
  · exact ⟨hcl, Nat.le_refl _, .nils⟩
  · exact ⟨hcl.push fun i a hi => (he.cl i a hi).mono (by omega), by simp, .sl _ _ _ _ _ (by simp)⟩

theorem CloneInt_row (xs : List AV) (M : List AO) (hl : xs.length ≤ 2000000) (he : Els 1 M.length xs) (h1 : (flat xs).all AV.one = true) : AC E 47 [.fz 1 xs] M (fun r M' => Row 1 xs M r M') := by
  refine AC.body (fn := Tryz.f47) Tryz.func47 rfl rfl (by simp [Tryz.f47]) fun hcl => ?_
  simp only [Tryz.f47]
  have hfl := flat_length he.size
  have hb : xs.length * 8 ≤ 140737488355328 := by omega
  have rest : ∀ T : Tm, T 0 = .fz 1 xs → AW E M.length 8 ((Code.region 3 #[⟨some 5, .buildSlice 24 0 #[], 24, "slices.go:362", #[], none⟩, ⟨some 6, .move (.tmp 0), 24, "slices.go:362", #[], none⟩, ⟨some 7, .call ⟨.builtin .append, #[.tmp 5, .tmp 6], #[24, 24]⟩, 24, "slices.go:362", #[⟨0, .data⟩, ⟨1, .data⟩], none⟩,
      ⟨some 2, .assign (.tmp 7), 24, "slices.go:362", #[⟨2, .data⟩, ⟨2, .chain⟩, ⟨0, .phase⟩, ⟨1, .phase⟩, ⟨2, .phase⟩], none⟩] false).seq .ret) T M (Fin E M.length [.tmp 2] fun r M' => Row 1 xs M r M') := by
    intro T t0
    repeat refine AW.seq ?_
    refine AW.ops ?_
    simp (decide := true) only [ax, tabs, s0, Int.reduceToNat, t0, hfl, h1, hb]
    have hr : Row 1 xs M (.sl 1 M.length 0 xs.length (xs.length * 1)) (M ++ [.mem (flat xs)]) := .inr ⟨rfl, rfl⟩
    obtain ⟨c1, c2, c3⟩ := hr.cl hcl he
    refine AW.ret (leftC (.inr rfl) c1 c2 (by simp (decide := true) only [ax, tabs, s0, Int.reduceToNat]; rfl) ?_ c3 hr)
    try (simp (decide := true) only [ax, tabs, s0, Int.reduceToNat])
  repeat refine AW.seq ?_
  refine AW.ops ?_
  simp (decide := true) only [ax, tabs, s0, Int.reduceToNat]
  cases xs with
  | nil =>
    repeat refine AW.seq ?_
    refine AW.ops ?_
    simp (decide := true) only [ax, tabs, s0, Int.reduceToNat]
    refine ⟨?_, ?_⟩
    · repeat refine AW.seq ?_
      refine AW.condT (by simp (decide := true) only [ax, tabs, s0, Int.reduceToNat]) ?_
      repeat refine AW.seq ?_
      refine AW.ops ?_
      simp (decide := true) only [ax, tabs, s0, Int.reduceToNat]
      refine AW.ret (left0 (.inr rfl) hcl (Nat.le_refl _) (by simp (decide := true) only [ax, tabs, s0, Int.reduceToNat]; rfl) (by simp (decide := true) only [ax, tabs, s0, Int.reduceToNat]; exact .scal rfl) (.inl ⟨rfl, rfl, rfl⟩))
    · repeat refine AW.seq ?_
      refine AW.condF (by simp (decide := true) only [ax, tabs, s0, Int.reduceToNat]) ?_
      refine AW.skip ?_
      simp (decide := true) only [ax, tabs, s0, Int.reduceToNat]
      exact rest _ (by simp (decide := true) only [ax, tabs, s0, Int.reduceToNat])
  | cons x l =>
    repeat refine AW.seq ?_
    refine AW.ops ?_
    simp (decide := true) only [ax, tabs, s0, Int.reduceToNat]
    repeat refine AW.seq ?_
    refine AW.condF (by simp (decide := true) only [ax, tabs, s0, Int.reduceToNat]) ?_
    refine AW.skip ?_
    simp (decide := true) only [ax, tabs, s0, Int.reduceToNat]
    exact rest _ (by simp (decide := true) only [ax, tabs, s0, Int.reduceToNat])
theorem CloneClue_row (xs : List AV) (M : List AO) (hl : xs.length ≤ 2000000) (he : Els 3 M.length xs) (h1 : (flat xs).all AV.one = true) : AC E 68 [.fz 3 xs] M (fun r M' => Row 3 xs M r M') := by
  refine AC.body (fn := Tryz.f68) Tryz.func68 rfl rfl (by simp [Tryz.f68]) fun hcl => ?_
  simp only [Tryz.f68]
  have hfl := flat_length he.size
  have hb : xs.length * 24 ≤ 140737488355328 := by omega
  have rest : ∀ T : Tm, T 0 = .fz 3 xs → AW E M.length 8 ((Code.region 3 #[⟨some 5, .buildSlice 48 0 #[], 48, "slices.go:362", #[], none⟩, ⟨some 6, .move (.tmp 0), 48, "slices.go:362", #[], none⟩, ⟨some 7, .call ⟨.builtin .append, #[.tmp 5, .tmp 6], #[48, 48]⟩, 48, "slices.go:362", #[⟨0, .data⟩, ⟨1, .data⟩], none⟩,
      ⟨some 2, .assign (.tmp 7), 48, "slices.go:362", #[⟨2, .data⟩, ⟨2, .chain⟩, ⟨0, .phase⟩, ⟨1, .phase⟩, ⟨2, .phase⟩], none⟩] false).seq .ret) T M (Fin E M.length [.tmp 2] fun r M' => Row 3 xs M r M') := by
    intro T t0
    repeat refine AW.seq ?_
    refine AW.ops ?_
    simp (decide := true) only [ax, tabs, s0, Int.reduceToNat, t0, hfl, h1, hb]
    have hr : Row 3 xs M (.sl 3 M.length 0 xs.length (xs.length * 3)) (M ++ [.mem (flat xs)]) := .inr ⟨rfl, rfl⟩
    obtain ⟨c1, c2, c3⟩ := hr.cl hcl he
    refine AW.ret (leftC (.inr rfl) c1 c2 (by simp (decide := true) only [ax, tabs, s0, Int.reduceToNat]; rfl) ?_ c3 hr)
    try (simp (decide := true) only [ax, tabs, s0, Int.reduceToNat])
  repeat refine AW.seq ?_
  refine AW.ops ?_
  simp (decide := true) only [ax, tabs, s0, Int.reduceToNat]
  cases xs with
  | nil =>
    repeat refine AW.seq ?_
    refine AW.ops ?_
    simp (decide := true) only [ax, tabs, s0, Int.reduceToNat]
    refine ⟨?_, ?_⟩
    · repeat refine AW.seq ?_
      refine AW.condT (by simp (decide := true) only [ax, tabs, s0, Int.reduceToNat]) ?_
      repeat refine AW.seq ?_
      refine AW.ops ?_
      simp (decide := true) only [ax, tabs, s0, Int.reduceToNat]
      refine AW.ret (left0 (.inr rfl) hcl (Nat.le_refl _) (by simp (decide := true) only [ax, tabs, s0, Int.reduceToNat]; rfl) (by simp (decide := true) only [ax, tabs, s0, Int.reduceToNat]; exact .scal rfl) (.inl ⟨rfl, rfl, rfl⟩))
    · repeat refine AW.seq ?_
      refine AW.condF (by simp (decide := true) only [ax, tabs, s0, Int.reduceToNat]) ?_
      refine AW.skip ?_
      simp (decide := true) only [ax, tabs, s0, Int.reduceToNat]
      exact rest _ (by simp (decide := true) only [ax, tabs, s0, Int.reduceToNat])
  | cons x l =>
    repeat refine AW.seq ?_
    refine AW.ops ?_
    simp (decide := true) only [ax, tabs, s0, Int.reduceToNat]
    repeat refine AW.seq ?_
    refine AW.condF (by simp (decide := true) only [ax, tabs, s0, Int.reduceToNat]) ?_
    refine AW.skip ?_
    simp (decide := true) only [ax, tabs, s0, Int.reduceToNat]
    exact rest _ (by simp (decide := true) only [ax, tabs, s0, Int.reduceToNat])

theorem CloneInt_fz (xs : List Int) (M : List AO) (hl : xs.length ≤ 2000000) : AC E 47 [.fz 1 (ints xs)] M (fun r M' => r = .fz 1 (ints xs) ∧ M' = M) :=
  .freeze ((CloneInt_row (ints xs) M (by rw [ints_length]; exact hl) (.ints ..) (by rw [flat_ints]; exact ints_all xs)).mono fun r M' h => by
    obtain ⟨J, r', h1, h2, h3, h4⟩ := h.frozen (.ints ..)
    exact ⟨J, r', h1, h2, h3, rfl⟩)
theorem CloneClue_fz (xs : List AV) (M : List AO) (hl : xs.length ≤ 2000000) (he : Els 3 M.length xs) (h1 : (flat xs).all AV.one = true) : AC E 68 [.fz 3 xs] M (fun r M' => r = .fz 3 xs ∧ M' = M) :=
  .freeze ((CloneClue_row xs M hl he h1).mono fun r M' h => by
    obtain ⟨J, r', h1, h2, h3, h4⟩ := h.frozen he
    exact ⟨J, r', h1, h2, h3, rfl⟩)

/-- A clue, as it stands in memory. -/
abbrev Clu := Int × Int × Int
def cv (c : Clu) : AV := .agg [iv c.1, iv c.2.1, iv c.2.2]
/-! ### Looking through a list -/
/-- The first place at which p holds, or -1. -/
def idxF {α : Type} (p : α → Bool) (xs : List α) : Int := match xs.findIdx? p with | some i => i | none => -1
theorem idxF_some {α : Type} {p : α → Bool} {xs : List α} {i : Nat} (h : i < xs.length) (hp : p xs[i] = true) (hno : ∀ j (hj : j < xs.length), j < i → p xs[j] = false) : idxF p xs = i := by
  have : xs.findIdx? p = some i := by
    rw [List.findIdx?_eq_some_iff_getElem]
    exact ⟨h, hp, fun j hj => by rw [hno j (by omega) hj]; simp⟩
  unfold idxF; rw [this]
theorem idxF_none {α : Type} {p : α → Bool} {xs : List α} (hno : ∀ j (hj : j < xs.length), p xs[j] = false) : idxF p xs = -1 := by
  have : xs.findIdx? p = none := by
    rw [List.findIdx?_eq_none_iff]
    intro x hx
    obtain ⟨j, hj, rfl⟩ := List.getElem_of_mem hx
    exact hno j hj
  unfold idxF; rw [this]
theorem idxF_any {α : Type} {p : α → Bool} {xs : List α} : decide (0 ≤ idxF p xs) = xs.any p := by
  unfold idxF
  cases h : xs.findIdx? p with
  | none =>
    rw [List.findIdx?_eq_none_iff] at h
    have : xs.any p = false := by rw [List.any_eq_false]; intro x hx; rw [h x hx]; simp
    rw [this]; decide
  | some i =>
    rw [List.findIdx?_eq_some_iff_getElem] at h
    obtain ⟨h1, h2, _⟩ := h
    have : xs.any p = true := by rw [List.any_eq_true]; exact ⟨xs[i], List.getElem_mem h1, h2⟩
    rw [this]; simp
theorem IndexInt_ok (xs : List (Int)) (g : FuncId) (caps : List AV) (p : Int → Bool) (M : List AO) (hl : xs.length ≤ 2000000) (hp : ∀ x ∈ xs, AC E g (iv x :: caps) M (fun r M' => r = .bool (p x) ∧ M' = M)) :
    AC E 109 [.fz 1 (xs.map iv), .fn g caps] M (fun r M' => r = iv (idxF p xs) ∧ M' = M) := by
  refine AC.body (fn := Tryz.f109) Tryz.func109 rfl rfl (by simp [Tryz.f109]) fun hcl => ?_
  simp only [Tryz.f109]
  repeat refine AW.seq ?_
  refine AW.ops ?_
  simp (decide := true) only [ax, tabs, s0, Int.reduceToNat]
  repeat refine AW.seq ?_
  refine AW.ops ?_
  simp (decide := true) only [ax, tabs, s0, Int.reduceToNat]
  refine (AW.range xs.length (fun i T M' => T 0 = .fz 1 (xs.map iv) ∧ T 1 = .fn g caps ∧ M' = M ∧ ∀ j (hj : j < xs.length), j < i → p xs[j] = false) (by omega) (by simp (decide := true) only [ax, tabs, s0, Int.reduceToNat]) (by simp (decide := true) only [ax, tabs, s0, Int.reduceToNat, List.length_map]) (by decide) (by decide) ⟨by simp (decide := true) only [ax, tabs, s0, Int.reduceToNat], by simp (decide := true) only [ax, tabs, s0, Int.reduceToNat], rfl, fun j _ h => by omega⟩ ?_ ?_ ?_)
  · rintro i T M' r ⟨h0, h1, hM, hno⟩
    refine ⟨⟨?_, ?_, hM, hno⟩, ⟨?_, ?_, hM, hno⟩, ⟨?_, ?_, hM, hno⟩⟩ <;> simp (decide := true) only [ax, tabs, s0, Int.reduceToNat, h0, h1]
  · rintro i T M' hi ⟨h0, h1, rfl, hno⟩ hI hN
    refine AW.block ?_
    repeat refine AW.seq ?_
    refine AW.ops ?_
    simp (decide := true) only [ax, tabs, s0, Int.reduceToNat, h0, h1, hI, hN]
    have hg : (xs.map iv).getD i .any = iv xs[i] := by simp [List.getD_eq_getElem?_getD, List.getElem?_eq_getElem hi]
    repeat refine AW.seq ?_
    refine AW.ops ?_
    simp (decide := true) only [ax, tabs, s0, Int.reduceToNat, h0, h1, hI, hN, List.length_map, hi, hg, Nat.add_zero]
    refine AC.det (hp xs[i] (List.getElem_mem hi)) ?_
    try (simp (decide := true) only [ax, tabs, s0, Int.reduceToNat])
    repeat refine AW.seq ?_
    refine AW.cond (p xs[i]) (by simp (decide := true) only [ax, tabs, s0, Int.reduceToNat]) (fun h => ?_) (fun h => ?_)
    · repeat refine AW.seq ?_
      refine AW.ops ?_
      simp (decide := true) only [ax, tabs, s0, Int.reduceToNat, h0, h1, hI, hN]
      refine AW.ret ?_
      try (simp (decide := true) only [ax, tabs, s0, Int.reduceToNat])
      refine leftS (.inr rfl) hcl (Nat.le_refl _) (by simp (decide := true) only [ax, tabs, s0, Int.reduceToNat]; rfl) ?_ rfl ⟨rfl, rfl⟩
      try (simp (decide := true) only [ax, tabs, s0, Int.reduceToNat])
      rw [idxF_some hi h hno]
    · refine AW.skip ?_
      simp (decide := true) only [ax, tabs, s0, Int.reduceToNat, h0, h1, hI, hN]
      intro j hj hlt
      rcases Nat.lt_or_ge j i with h2 | h2
      · exact hno j hj h2
      · have : j = i := by omega
        subst this; exact h
  · rintro T M' ⟨h0, h1, rfl, hno⟩
    try (simp (decide := true) only [ax, tabs, s0, Int.reduceToNat])
    repeat refine AW.seq ?_
    refine AW.ops ?_
    simp (decide := true) only [ax, tabs, s0, Int.reduceToNat]
    refine AW.ret (leftS (.inr rfl) hcl (Nat.le_refl _) (by simp (decide := true) only [ax, tabs, s0, Int.reduceToNat]; rfl) ?_ rfl ⟨rfl, rfl⟩)
    try (simp (decide := true) only [ax, tabs, s0, Int.reduceToNat])
    rw [idxF_none fun j hj => hno j hj hj]
theorem IndexClue_ok (xs : List (Int × Int × Int)) (g : FuncId) (caps : List AV) (p : Int × Int × Int → Bool) (M : List AO) (hl : xs.length ≤ 2000000) (hp : ∀ x ∈ xs, AC E g (cv x :: caps) M (fun r M' => r = .bool (p x) ∧ M' = M)) :
    AC E 132 [.fz 3 (xs.map cv), .fn g caps] M (fun r M' => r = iv (idxF p xs) ∧ M' = M) := by
  refine AC.body (fn := Tryz.f132) Tryz.func132 rfl rfl (by simp [Tryz.f132]) fun hcl => ?_
  simp only [Tryz.f132]
  repeat refine AW.seq ?_
  refine AW.ops ?_
  simp (decide := true) only [ax, tabs, s0, Int.reduceToNat]
  repeat refine AW.seq ?_
  refine AW.ops ?_
  simp (decide := true) only [ax, tabs, s0, Int.reduceToNat]
  refine (AW.range xs.length (fun i T M' => T 0 = .fz 3 (xs.map cv) ∧ T 1 = .fn g caps ∧ M' = M ∧ ∀ j (hj : j < xs.length), j < i → p xs[j] = false) (by omega) (by simp (decide := true) only [ax, tabs, s0, Int.reduceToNat]) (by simp (decide := true) only [ax, tabs, s0, Int.reduceToNat, List.length_map]) (by decide) (by decide) ⟨by simp (decide := true) only [ax, tabs, s0, Int.reduceToNat], by simp (decide := true) only [ax, tabs, s0, Int.reduceToNat], rfl, fun j _ h => by omega⟩ ?_ ?_ ?_)
  · rintro i T M' r ⟨h0, h1, hM, hno⟩
    refine ⟨⟨?_, ?_, hM, hno⟩, ⟨?_, ?_, hM, hno⟩, ⟨?_, ?_, hM, hno⟩⟩ <;> simp (decide := true) only [ax, tabs, s0, Int.reduceToNat, h0, h1]
  · rintro i T M' hi ⟨h0, h1, rfl, hno⟩ hI hN
    refine AW.block ?_
    repeat refine AW.seq ?_
    refine AW.ops ?_
    simp (decide := true) only [ax, tabs, s0, Int.reduceToNat, h0, h1, hI, hN]
    have hg : (xs.map cv).getD i .any = cv xs[i] := by simp [List.getD_eq_getElem?_getD, List.getElem?_eq_getElem hi]
    repeat refine AW.seq ?_
    refine AW.ops ?_
    simp (decide := true) only [ax, tabs, s0, Int.reduceToNat, h0, h1, hI, hN, List.length_map, hi, hg, cv]
    refine AC.det (hp xs[i] (List.getElem_mem hi)) ?_
    try (simp (decide := true) only [ax, tabs, s0, Int.reduceToNat])
    repeat refine AW.seq ?_
    refine AW.cond (p xs[i]) (by simp (decide := true) only [ax, tabs, s0, Int.reduceToNat]) (fun h => ?_) (fun h => ?_)
    · repeat refine AW.seq ?_
      refine AW.ops ?_
      simp (decide := true) only [ax, tabs, s0, Int.reduceToNat, h0, h1, hI, hN]
      refine AW.ret ?_
      try (simp (decide := true) only [ax, tabs, s0, Int.reduceToNat])
      refine leftS (.inr rfl) hcl (Nat.le_refl _) (by simp (decide := true) only [ax, tabs, s0, Int.reduceToNat]; rfl) ?_ rfl ⟨rfl, rfl⟩
      try (simp (decide := true) only [ax, tabs, s0, Int.reduceToNat])
      rw [idxF_some hi h hno]
    · refine AW.skip ?_
      simp (decide := true) only [ax, tabs, s0, Int.reduceToNat, h0, h1, hI, hN]
      intro j hj hlt
      rcases Nat.lt_or_ge j i with h2 | h2
      · exact hno j hj h2
      · have : j = i := by omega
        subst this; exact h
  · rintro T M' ⟨h0, h1, rfl, hno⟩
    try (simp (decide := true) only [ax, tabs, s0, Int.reduceToNat])
    repeat refine AW.seq ?_
    refine AW.ops ?_
    simp (decide := true) only [ax, tabs, s0, Int.reduceToNat]
    refine AW.ret (leftS (.inr rfl) hcl (Nat.le_refl _) (by simp (decide := true) only [ax, tabs, s0, Int.reduceToNat]; rfl) ?_ rfl ⟨rfl, rfl⟩)
    try (simp (decide := true) only [ax, tabs, s0, Int.reduceToNat])
    rw [idxF_none fun j hj => hno j hj hj]
theorem ContainsInt_ok (xs : List (Int)) (g : FuncId) (caps : List AV) (p : Int → Bool) (M : List AO) (hl : xs.length ≤ 2000000) (hp : ∀ x ∈ xs, AC E g (iv x :: caps) M (fun r M' => r = .bool (p x) ∧ M' = M)) :
    AC E 95 [.fz 1 (xs.map iv), .fn g caps] M (fun r M' => r = .bool (xs.any p) ∧ M' = M) := by
  refine AC.body (fn := Tryz.f95) Tryz.func95 rfl rfl (by simp [Tryz.f95]) fun hcl => ?_
  simp only [Tryz.f95]
  repeat refine AW.seq ?_
  refine AW.ops ?_
  simp (decide := true) only [ax, tabs, s0, Int.reduceToNat]
  repeat refine AW.seq ?_
  refine AW.ops ?_
  simp (decide := true) only [ax, tabs, s0, Int.reduceToNat]
  refine AC.det (IndexInt_ok xs g caps p M hl hp) ?_
  try (simp (decide := true) only [ax, tabs, s0, Int.reduceToNat])
  try (simp (decide := true) only [ax, tabs, s0, Int.reduceToNat])
  refine AW.ret (leftS (.inr rfl) hcl (Nat.le_refl _) (by simp (decide := true) only [ax, tabs, s0, Int.reduceToNat]; rfl) ?_ rfl ⟨rfl, rfl⟩)
  simp (decide := true) only [ax, tabs, s0, Int.reduceToNat, idxF_any]
theorem ContainsClue_ok (xs : List (Int × Int × Int)) (g : FuncId) (caps : List AV) (p : Int × Int × Int → Bool) (M : List AO) (hl : xs.length ≤ 2000000) (hp : ∀ x ∈ xs, AC E g (cv x :: caps) M (fun r M' => r = .bool (p x) ∧ M' = M)) :
    AC E 106 [.fz 3 (xs.map cv), .fn g caps] M (fun r M' => r = .bool (xs.any p) ∧ M' = M) := by
  refine AC.body (fn := Tryz.f106) Tryz.func106 rfl rfl (by simp [Tryz.f106]) fun hcl => ?_
  simp only [Tryz.f106]
  repeat refine AW.seq ?_
  refine AW.ops ?_
  simp (decide := true) only [ax, tabs, s0, Int.reduceToNat]
  repeat refine AW.seq ?_
  refine AW.ops ?_
  simp (decide := true) only [ax, tabs, s0, Int.reduceToNat]
  refine AC.det (IndexClue_ok xs g caps p M hl hp) ?_
  try (simp (decide := true) only [ax, tabs, s0, Int.reduceToNat])
  try (simp (decide := true) only [ax, tabs, s0, Int.reduceToNat])
  refine AW.ret (leftS (.inr rfl) hcl (Nat.le_refl _) (by simp (decide := true) only [ax, tabs, s0, Int.reduceToNat]; rfl) ?_ rfl ⟨rfl, rfl⟩)
  simp (decide := true) only [ax, tabs, s0, Int.reduceToNat, idxF_any]
end Go.Ax
