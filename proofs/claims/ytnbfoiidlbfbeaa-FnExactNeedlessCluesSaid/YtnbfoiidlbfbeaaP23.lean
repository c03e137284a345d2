/- Marks on what lives, and what is held. -/
import Derived.Test.YtnbfoiidlbfbeaaP22
set_option linter.unusedVariables false
set_option linter.unusedSimpArgs false
namespace Go.Ax
open Go.Proofs

def marks (k : Int) (n : Nat) : List Int := (List.range n).map fun (i : Nat) => k + i
theorem marks_length (k : Int) (n : Nat) : (marks k n).length = n := by simp [marks]
theorem marks_succ (k : Int) (n : Nat) : marks k (n + 1) = marks k n ++ [k + n] := by simp [marks, List.range_succ]
theorem marks_get {k : Int} {n i : Nat} (h : i < n) : (marks k n).getD i 0 = k + i := by simp [marks, List.getD_eq_getElem?_getD, h]
/-- The first i of a list are marked. -/
def markL (k : Int) (xs : List Int) (i : Nat) : List Int := (List.range xs.length).map fun (j : Nat) => if j < i then k + j else xs.getD j 0
theorem markL_length (k : Int) (xs : List Int) (i : Nat) : (markL k xs i).length = xs.length := by simp [markL]
theorem markL_zero (k : Int) (xs : List Int) : markL k xs 0 = xs := by
  apply List.ext_getElem
  · simp [markL]
  · intro j h1 h2
    simp [markL, List.getD_eq_getElem?_getD, List.getElem?_eq_getElem h2]
theorem markL_all (k : Int) (xs : List Int) : markL k xs xs.length = marks k xs.length := by
  unfold markL marks
  apply List.map_congr_left
  intro j hj
  rw [if_pos (List.mem_range.1 hj)]
theorem markL_put {k : Int} {xs : List Int} {i : Nat} (hi : i < xs.length) : putA' (ints (markL k xs i)) i [iv (k + i)] = ints (markL k xs (i + 1)) := by
  rw [putA'_one (by rw [ints_length, markL_length]; exact hi), ints_set]
  congr 1
  apply List.ext_getElem
  · simp [markL]
  · intro j h1 h2
    rw [List.getElem_set]
    by_cases e : i = j
    · subst e; simp [markL]
    · rw [if_neg e]
      simp only [markL, List.getElem_map, List.getElem_range]
      by_cases hj : j < i
      · rw [if_pos hj, if_pos (by omega)]
      · rw [if_neg hj, if_neg (by omega)]
theorem markIntS_row (xs : List Int) (k : Int) (o : Nat) (M : List AO) (hk : 0 ≤ k ∧ k ≤ 1000000000) (hl : xs.length ≤ 1000000000) (ho : M[o]? = some (.mem (ints xs))) :
    AC E 11 [.sl 1 o 0 xs.length xs.length, iv k] M (fun r M' => r = iv (k + xs.length) ∧ M' = M.set o (.mem (ints (marks k xs.length)))) := by
  refine AC.body (fn := Try.f11) Try.func11 rfl rfl (by simp [Try.f11]) fun hcl => ?_
  simp only [Try.f11]
  have hlt := lt_of_obj ho
  have hset : ∀ x, (M.set o x)[o]? = some x := fun x => List.getElem?_set_self hlt
  have hM0 : M = M.set o (.mem (ints (markL k xs 0))) := by rw [markL_zero, set_self ho]
  have hlen : ∀ i, (ints (markL k xs i)).length = xs.length := fun i => by rw [ints_length, markL_length]
  have hk0 : k + ((0 : Nat) : Int) = k := by simp
  try (simp (decide := true) only [ax, tabs, s0, Int.reduceToNat, ho, ints_length])
  repeat (first
    | refine AW.seq ?_
    | refine AW.blockS ?_
    | ((first | refine AW.skip ?_ | refine AW.exit ?_ | refine AW.opsN rfl ?_ | refine AW.ret ?_); try (simp (decide := true) only [ax, tabs, s0, Int.reduceToNat, ho, ints_length]))
    | (refine AW.condT ?_ ?_; (focus (simp (decide := true) only [ax, tabs, s0, Int.reduceToNat, ho, ints_length]; done)))
    | (refine AW.condF ?_ ?_; (focus (simp (decide := true) only [ax, tabs, s0, Int.reduceToNat, ho, ints_length]; done))))
  refine AW.gen fun T0_ hT0_ => ?_
  have z0_0 := congrFun hT0_ 0
  have z0_1 := congrFun hT0_ 1
  have z0_5 := congrFun hT0_ 5
  try (simp (decide := true) only [ax, tabs, s0, Int.reduceToNat, ho, ints_length, hk0] at z0_0 z0_1 z0_5)
  clear hT0_
  refine AW.blockP (fun T M' => AgT [0] T T0_ ∧ T 1 = iv (k + ((xs.length) : Nat)) ∧ M' = M.set o (.mem (ints (markL k xs (xs.length))))) (AW.loop (fun d T M' => ∃ i : Nat, i + d = xs.length ∧ AgT [0] T T0_ ∧ T 5 = iv i ∧ T 1 = iv (k + (i : Nat)) ∧ M' = M.set o (.mem (ints (markL k xs i)))) (xs.length) ⟨0, by omega, AgT_refl _ _, (by first | (simp (decide := true) only [ax, tabs, s0, Int.reduceToNat, z0_0, z0_1, z0_5, ho, ints_length, hk0]; done) | (simp (decide := true) only [ax, tabs, s0, Int.reduceToNat, z0_0, z0_1, z0_5, ho, ints_length, hk0]; rfl) | rfl | (intros; omega) | (simp (decide := true) only [ax, tabs, s0, Int.reduceToNat, z0_0, z0_1, z0_5, ho, ints_length, hk0]; exact Tell.nil _) | (simp (decide := true) only [ax, tabs, s0, Int.reduceToNat, z0_0, z0_1, z0_5, ho, ints_length, hk0]; exact Or.inl ⟨rfl, rfl⟩)), (by first | (simp (decide := true) only [ax, tabs, s0, Int.reduceToNat, z0_0, z0_1, z0_5, ho, ints_length, hk0]; done) | (simp (decide := true) only [ax, tabs, s0, Int.reduceToNat, z0_0, z0_1, z0_5, ho, ints_length, hk0]; rfl) | rfl | (intros; omega) | (simp (decide := true) only [ax, tabs, s0, Int.reduceToNat, z0_0, z0_1, z0_5, ho, ints_length, hk0]; exact Tell.nil _) | (simp (decide := true) only [ax, tabs, s0, Int.reduceToNat, z0_0, z0_1, z0_5, ho, ints_length, hk0]; exact Or.inl ⟨rfl, rfl⟩)), (by first | trivial | rfl | assumption | exact List.prefix_rfl | (simp; done) | (simp (decide := true) only [ax, tabs, s0, Int.reduceToNat, z0_0, z0_1, z0_5, ho, ints_length, hk0]; done))⟩ ?_) ?_
  · rintro d T M' ⟨i, hd, fr, hI, h1, rfl⟩
    have y0_0 := (fr 0 (by decide)).trans z0_0
    try (simp (decide := true) only [ax, tabs, s0, Int.reduceToNat, y0_0, h1, hI, hset, hlen])
    repeat (first
      | refine AW.seq ?_
      | refine AW.blockS ?_
      | ((first | refine AW.skip ?_ | refine AW.exit ?_ | refine AW.opsN rfl ?_ | refine AW.ret ?_); try (simp (decide := true) only [ax, tabs, s0, Int.reduceToNat, y0_0, h1, hI, hset, hlen]))
      | (refine AW.condT ?_ ?_; (focus (simp (decide := true) only [ax, tabs, s0, Int.reduceToNat, y0_0, h1, hI, hset, hlen]; done)))
      | (refine AW.condF ?_ ?_; (focus (simp (decide := true) only [ax, tabs, s0, Int.reduceToNat, y0_0, h1, hI, hset, hlen]; done))))
    repeat refine AW.seq ?_
    refine AW.cond (decide ((i : Int) < ((xs.length : Nat) : Int))) (by simp (decide := true) only [ax, tabs, s0, Int.reduceToNat, y0_0, h1, hI, hset, hlen]) (fun h => ?_) (fun h => ?_)
    · have hi : i < xs.length := by have := of_decide_eq_true h; omega
      have w := wrap_succ (i := i) (by omega)
      have w2 : IntKind.i64.wrap (k + i + 1) = k + (i + 1 : Nat) := by rw [wrap_in (by omega) (by omega)]; omega
      have hp := markL_put (k := k) hi
      have hk1 : i * 1 = i := Nat.mul_one i
      have hk2 : i + 1 ≤ xs.length := hi
      try (simp (decide := true) only [ax, tabs, s0, Int.reduceToNat, y0_0, h1, hI, hset, hlen, hi, w, w2, hp, hk1, hk2, Nat.zero_add])
      repeat (first
        | refine AW.seq ?_
        | refine AW.blockS ?_
        | ((first | refine AW.skip ?_ | refine AW.exit ?_ | refine AW.opsN rfl ?_ | refine AW.ret ?_); try (simp (decide := true) only [ax, tabs, s0, Int.reduceToNat, y0_0, h1, hI, hset, hlen, hi, w, w2, hp, hk1, hk2, Nat.zero_add]))
        | (refine AW.condT ?_ ?_; (focus (simp (decide := true) only [ax, tabs, s0, Int.reduceToNat, y0_0, h1, hI, hset, hlen, hi, w, w2, hp, hk1, hk2, Nat.zero_add]; done)))
        | (refine AW.condF ?_ ?_; (focus (simp (decide := true) only [ax, tabs, s0, Int.reduceToNat, y0_0, h1, hI, hset, hlen, hi, w, w2, hp, hk1, hk2, Nat.zero_add]; done))))
      refine ⟨d - 1, by omega, i + 1, by omega, ?_⟩
      simp (decide := true) only [ax, tabs, s0, Int.reduceToNat, AgT_cons, AgT_nil, and_true, true_and, y0_0, z0_0, h1, w, w2]
    · have hi : i = xs.length := by have := of_decide_eq_false h; omega
      subst hi
      try (simp (decide := true) only [ax, tabs, s0, Int.reduceToNat, y0_0, hI, hset, hlen])
      repeat (first
        | refine AW.seq ?_
        | refine AW.blockS ?_
        | ((first | refine AW.skip ?_ | refine AW.exit ?_ | refine AW.opsN rfl ?_ | refine AW.ret ?_); try (simp (decide := true) only [ax, tabs, s0, Int.reduceToNat, y0_0, hI, hset, hlen]))
        | (refine AW.condT ?_ ?_; (focus (simp (decide := true) only [ax, tabs, s0, Int.reduceToNat, y0_0, hI, hset, hlen]; done)))
        | (refine AW.condF ?_ ?_; (focus (simp (decide := true) only [ax, tabs, s0, Int.reduceToNat, y0_0, hI, hset, hlen]; done))))
      try (simp (decide := true) only [ax, tabs, s0, Int.reduceToNat, AgT_cons, AgT_nil, and_true, true_and, y0_0, z0_0, h1])
      repeat' (first | assumption | rfl | exact List.prefix_append _ _ | apply And.intro)
  · rintro T M' ⟨fr, h1, rfl⟩
    have y0_0 := (fr 0 (by decide)).trans z0_0
    rw [markL_all]
    try (simp (decide := true) only [ax, tabs, s0, Int.reduceToNat, h1])
    repeat (first
      | refine AW.seq ?_
      | refine AW.blockS ?_
      | ((first | refine AW.skip ?_ | refine AW.exit ?_ | refine AW.opsN rfl ?_ | refine AW.ret ?_); try (simp (decide := true) only [ax, tabs, s0, Int.reduceToNat, h1]))
      | (refine AW.condT ?_ ?_; (focus (simp (decide := true) only [ax, tabs, s0, Int.reduceToNat, h1]; done)))
      | (refine AW.condF ?_ ?_; (focus (simp (decide := true) only [ax, tabs, s0, Int.reduceToNat, h1]; done))))
    refine leftN (.inr rfl) (by simp) (by simp (decide := true) only [ax, tabs, s0, Int.reduceToNat]; rfl) rfl (.of_scal rfl) ⟨rfl, rfl⟩
theorem heldIntS_ok (k : Int) (n : Nat) (M : List AO) (hk : 0 ≤ k ∧ k ≤ 1000000000) (hl : n ≤ 1000000000) : AC E 12 [.fz 1 (ints (marks k n)), iv k] M (fun r M' => r = iv (k + n) ∧ M' = M) := by
  refine AC.body (fn := Try.f12) Try.func12 rfl rfl (by simp [Try.f12]) fun hcl => ?_
  simp only [Try.f12]
  have hk0 : k + ((0 : Nat) : Int) = k := by simp
  try (simp (decide := true) only [ax, tabs, s0, Int.reduceToNat, ints_length, marks_length])
  repeat (first
    | refine AW.seq ?_
    | refine AW.blockS ?_
    | ((first | refine AW.skip ?_ | refine AW.exit ?_ | refine AW.opsN rfl ?_ | refine AW.ret ?_); try (simp (decide := true) only [ax, tabs, s0, Int.reduceToNat, ints_length, marks_length]))
    | (refine AW.condT ?_ ?_; (focus (simp (decide := true) only [ax, tabs, s0, Int.reduceToNat, ints_length, marks_length]; done)))
    | (refine AW.condF ?_ ?_; (focus (simp (decide := true) only [ax, tabs, s0, Int.reduceToNat, ints_length, marks_length]; done))))
  refine AW.gen fun T0_ hT0_ => ?_
  have z0_0 := congrFun hT0_ 0
  have z0_1 := congrFun hT0_ 1
  have z0_5 := congrFun hT0_ 5
  try (simp (decide := true) only [ax, tabs, s0, Int.reduceToNat, ints_length, hk0] at z0_0 z0_1 z0_5)
  clear hT0_
  refine AW.blockP (fun T M' => AgT [0] T T0_ ∧ T 1 = iv (k + ((n) : Nat)) ∧ M' = M) (AW.loop (fun d T M' => ∃ i : Nat, i + d = n ∧ AgT [0] T T0_ ∧ T 5 = iv i ∧ T 1 = iv (k + (i : Nat)) ∧ M' = M) (n) ⟨0, by omega, AgT_refl _ _, (by first | (simp (decide := true) only [ax, tabs, s0, Int.reduceToNat, z0_0, z0_1, z0_5, ints_length, hk0]; done) | (simp (decide := true) only [ax, tabs, s0, Int.reduceToNat, z0_0, z0_1, z0_5, ints_length, hk0]; rfl) | rfl | (intros; omega) | (simp (decide := true) only [ax, tabs, s0, Int.reduceToNat, z0_0, z0_1, z0_5, ints_length, hk0]; exact Tell.nil _) | (simp (decide := true) only [ax, tabs, s0, Int.reduceToNat, z0_0, z0_1, z0_5, ints_length, hk0]; exact Or.inl ⟨rfl, rfl⟩)), (by first | (simp (decide := true) only [ax, tabs, s0, Int.reduceToNat, z0_0, z0_1, z0_5, ints_length, hk0]; done) | (simp (decide := true) only [ax, tabs, s0, Int.reduceToNat, z0_0, z0_1, z0_5, ints_length, hk0]; rfl) | rfl | (intros; omega) | (simp (decide := true) only [ax, tabs, s0, Int.reduceToNat, z0_0, z0_1, z0_5, ints_length, hk0]; exact Tell.nil _) | (simp (decide := true) only [ax, tabs, s0, Int.reduceToNat, z0_0, z0_1, z0_5, ints_length, hk0]; exact Or.inl ⟨rfl, rfl⟩)), (by first | trivial | rfl | assumption | exact List.prefix_rfl | (simp; done) | (simp (decide := true) only [ax, tabs, s0, Int.reduceToNat, z0_0, z0_1, z0_5, ints_length, hk0]; done))⟩ ?_) ?_
  · rintro d T M' ⟨i, hd, fr, hI, h1, rfl⟩
    have y0_0 := (fr 0 (by decide)).trans z0_0
    try (simp (decide := true) only [ax, tabs, s0, Int.reduceToNat, y0_0, h1, hI, ints_length, marks_length])
    repeat (first
      | refine AW.seq ?_
      | refine AW.blockS ?_
      | ((first | refine AW.skip ?_ | refine AW.exit ?_ | refine AW.opsN rfl ?_ | refine AW.ret ?_); try (simp (decide := true) only [ax, tabs, s0, Int.reduceToNat, y0_0, h1, hI, ints_length, marks_length]))
      | (refine AW.condT ?_ ?_; (focus (simp (decide := true) only [ax, tabs, s0, Int.reduceToNat, y0_0, h1, hI, ints_length, marks_length]; done)))
      | (refine AW.condF ?_ ?_; (focus (simp (decide := true) only [ax, tabs, s0, Int.reduceToNat, y0_0, h1, hI, ints_length, marks_length]; done))))
    repeat refine AW.seq ?_
    refine AW.cond (decide ((i : Int) < ((n : Nat) : Int))) (by simp (decide := true) only [ax, tabs, s0, Int.reduceToNat, y0_0, h1, hI, ints_length, marks_length]) (fun h => ?_) (fun h => ?_)
    · have hi : i < n := by have := of_decide_eq_true h; omega
      have g := ints_get (xs := marks k n) (i := i) (by rw [marks_length]; exact hi)
      rw [marks_get hi] at g
      have e0 : decide (k + (i : Int) ≠ k + i) = false := decide_eq_false (by simp)
      have w := wrap_succ (i := i) (by omega)
      have w2 : IntKind.i64.wrap (k + i + 1) = k + (i + 1 : Nat) := by rw [wrap_in (by omega) (by omega)]; omega
      try (simp (decide := true) only [ax, tabs, s0, Int.reduceToNat, y0_0, h1, hI, ints_length, marks_length, hi, g, w, w2, e0])
      repeat (first
        | refine AW.seq ?_
        | refine AW.blockS ?_
        | ((first | refine AW.skip ?_ | refine AW.exit ?_ | refine AW.opsN rfl ?_ | refine AW.ret ?_); try (simp (decide := true) only [ax, tabs, s0, Int.reduceToNat, y0_0, h1, hI, ints_length, marks_length, hi, g, w, w2, e0]))
        | (refine AW.condT ?_ ?_; (focus (simp (decide := true) only [ax, tabs, s0, Int.reduceToNat, y0_0, h1, hI, ints_length, marks_length, hi, g, w, w2, e0]; done)))
        | (refine AW.condF ?_ ?_; (focus (simp (decide := true) only [ax, tabs, s0, Int.reduceToNat, y0_0, h1, hI, ints_length, marks_length, hi, g, w, w2, e0]; done))))
      refine ⟨d - 1, by omega, i + 1, by omega, ?_⟩
      simp (decide := true) only [ax, tabs, s0, Int.reduceToNat, AgT_cons, AgT_nil, and_true, true_and, y0_0, z0_0, h1, w, w2]
    · have hi : i = n := by have := of_decide_eq_false h; omega
      subst hi
      try (simp (decide := true) only [ax, tabs, s0, Int.reduceToNat, y0_0, hI, ints_length, marks_length])
      repeat (first
        | refine AW.seq ?_
        | refine AW.blockS ?_
        | ((first | refine AW.skip ?_ | refine AW.exit ?_ | refine AW.opsN rfl ?_ | refine AW.ret ?_); try (simp (decide := true) only [ax, tabs, s0, Int.reduceToNat, y0_0, hI, ints_length, marks_length]))
        | (refine AW.condT ?_ ?_; (focus (simp (decide := true) only [ax, tabs, s0, Int.reduceToNat, y0_0, hI, ints_length, marks_length]; done)))
        | (refine AW.condF ?_ ?_; (focus (simp (decide := true) only [ax, tabs, s0, Int.reduceToNat, y0_0, hI, ints_length, marks_length]; done))))
      try (simp (decide := true) only [ax, tabs, s0, Int.reduceToNat, AgT_cons, AgT_nil, and_true, true_and, y0_0, z0_0, h1])
      repeat' (first | assumption | rfl | exact List.prefix_append _ _ | apply And.intro)
  · rintro T M' ⟨fr, h1, rfl⟩
    have y0_0 := (fr 0 (by decide)).trans z0_0
    try (simp (decide := true) only [ax, tabs, s0, Int.reduceToNat, h1])
    repeat (first
      | refine AW.seq ?_
      | refine AW.blockS ?_
      | ((first | refine AW.skip ?_ | refine AW.exit ?_ | refine AW.opsN rfl ?_ | refine AW.ret ?_); try (simp (decide := true) only [ax, tabs, s0, Int.reduceToNat, h1]))
      | (refine AW.condT ?_ ?_; (focus (simp (decide := true) only [ax, tabs, s0, Int.reduceToNat, h1]; done)))
      | (refine AW.condF ?_ ?_; (focus (simp (decide := true) only [ax, tabs, s0, Int.reduceToNat, h1]; done))))
    first
      | refine leftJ (.inr rfl) hcl (Nat.le_refl _) (by simp (decide := true) only [ax, tabs, s0, Int.reduceToNat]; rfl) ?_ rfl ⟨rfl, rfl⟩
      | refine leftS (.inr rfl) hcl (Nat.le_refl _) (by simp (decide := true) only [ax, tabs, s0, Int.reduceToNat]; rfl) ?_ rfl ⟨rfl, rfl⟩
    simp (decide := true) only [ax, tabs, s0, Int.reduceToNat]
theorem eqPuzzle_ok (p q : Int) (a b : List Clu) (M : List AO) (ha : a.length ≤ 1000000000) : AC E 9 [pv p a, pv q b] M (fun r M' => r = .bool (decide (p = q ∧ a = b)) ∧ M' = M) := by
  refine AC.body (fn := Try.f9) Try.func9 rfl rfl (by simp [Try.f9]) fun hcl => ?_
  simp only [Try.f9]
  try (simp (decide := true) only [ax, tabs, s0, Int.reduceToNat, pv])
  repeat (first
    | refine AW.seq ?_
    | refine AW.blockS ?_
    | ((first | refine AW.skip ?_ | refine AW.exit ?_ | refine AW.opsN rfl ?_ | refine AW.ret ?_); try (simp (decide := true) only [ax, tabs, s0, Int.reduceToNat, pv]))
    | (refine AW.condT ?_ ?_; (focus (simp (decide := true) only [ax, tabs, s0, Int.reduceToNat, pv]; done)))
    | (refine AW.condF ?_ ?_; (focus (simp (decide := true) only [ax, tabs, s0, Int.reduceToNat, pv]; done))))
  repeat refine AW.seq ?_
  refine AW.cond (decide (p ≠ q)) (by simp (decide := true) only [ax, tabs, s0, Int.reduceToNat]) (fun h => ?_) (fun h => ?_)
  · have h' : ¬ (p = q ∧ a = b) := fun h2 => by simp [h2.1] at h
    try (simp (decide := true) only [ax, tabs, s0, Int.reduceToNat])
    repeat (first
      | refine AW.seq ?_
      | refine AW.blockS ?_
      | ((first | refine AW.skip ?_ | refine AW.exit ?_ | refine AW.opsN rfl ?_ | refine AW.ret ?_); try (simp (decide := true) only [ax, tabs, s0, Int.reduceToNat]))
      | (refine AW.condT ?_ ?_; (focus (simp (decide := true) only [ax, tabs, s0, Int.reduceToNat]; done)))
      | (refine AW.condF ?_ ?_; (focus (simp (decide := true) only [ax, tabs, s0, Int.reduceToNat]; done))))
    first
      | refine leftJ (.inr rfl) hcl (Nat.le_refl _) (by simp (decide := true) only [ax, tabs, s0, Int.reduceToNat]; rfl) ?_ rfl ⟨rfl, rfl⟩
      | refine leftS (.inr rfl) hcl (Nat.le_refl _) (by simp (decide := true) only [ax, tabs, s0, Int.reduceToNat]; rfl) ?_ rfl ⟨rfl, rfl⟩
    simp (decide := true) only [ax, tabs, s0, Int.reduceToNat, decide_eq_false h']
  have e1 : p = q := by simpa using h
  try (simp (decide := true) only [ax, tabs, s0, Int.reduceToNat])
  repeat (first
    | refine AW.seq ?_
    | refine AW.blockS ?_
    | ((first | refine AW.skip ?_ | refine AW.exit ?_ | refine AW.opsN rfl ?_ | refine AW.ret ?_); try (simp (decide := true) only [ax, tabs, s0, Int.reduceToNat]))
    | (refine AW.condT ?_ ?_; (focus (simp (decide := true) only [ax, tabs, s0, Int.reduceToNat]; done)))
    | (refine AW.condF ?_ ?_; (focus (simp (decide := true) only [ax, tabs, s0, Int.reduceToNat]; done))))
  refine AC.det (eqClueS_ok a b _ ha) ?_
  by_cases h2 : a = b
  · rw [decide_eq_true h2, decide_eq_true (show p = q ∧ a = b from ⟨e1, h2⟩)]
    try (simp (decide := true) only [ax, tabs, s0, Int.reduceToNat])
    repeat (first
      | refine AW.seq ?_
      | refine AW.blockS ?_
      | ((first | refine AW.skip ?_ | refine AW.exit ?_ | refine AW.opsN rfl ?_ | refine AW.ret ?_); try (simp (decide := true) only [ax, tabs, s0, Int.reduceToNat]))
      | (refine AW.condT ?_ ?_; (focus (simp (decide := true) only [ax, tabs, s0, Int.reduceToNat]; done)))
      | (refine AW.condF ?_ ?_; (focus (simp (decide := true) only [ax, tabs, s0, Int.reduceToNat]; done))))
    first
      | refine leftJ (.inr rfl) hcl (Nat.le_refl _) (by simp (decide := true) only [ax, tabs, s0, Int.reduceToNat]; rfl) ?_ rfl ⟨rfl, rfl⟩
      | refine leftS (.inr rfl) hcl (Nat.le_refl _) (by simp (decide := true) only [ax, tabs, s0, Int.reduceToNat]; rfl) ?_ rfl ⟨rfl, rfl⟩
    simp (decide := true) only [ax, tabs, s0, Int.reduceToNat]
  · rw [decide_eq_false h2, decide_eq_false (show ¬ (p = q ∧ a = b) from fun h => h2 h.2)]
    try (simp (decide := true) only [ax, tabs, s0, Int.reduceToNat])
    repeat (first
      | refine AW.seq ?_
      | refine AW.blockS ?_
      | ((first | refine AW.skip ?_ | refine AW.exit ?_ | refine AW.opsN rfl ?_ | refine AW.ret ?_); try (simp (decide := true) only [ax, tabs, s0, Int.reduceToNat]))
      | (refine AW.condT ?_ ?_; (focus (simp (decide := true) only [ax, tabs, s0, Int.reduceToNat]; done)))
      | (refine AW.condF ?_ ?_; (focus (simp (decide := true) only [ax, tabs, s0, Int.reduceToNat]; done))))
    first
      | refine leftJ (.inr rfl) hcl (Nat.le_refl _) (by simp (decide := true) only [ax, tabs, s0, Int.reduceToNat]; rfl) ?_ rfl ⟨rfl, rfl⟩
      | refine leftS (.inr rfl) hcl (Nat.le_refl _) (by simp (decide := true) only [ax, tabs, s0, Int.reduceToNat]; rfl) ?_ rfl ⟨rfl, rfl⟩
    simp (decide := true) only [ax, tabs, s0, Int.reduceToNat]
theorem markClueS_row (n g : Nat) (cs : List AV) (k : Int) (o : Nat) (M : List AO) (hk : 0 ≤ k ∧ k ≤ 1000000000) (hl : n ≤ 1000000000) (hg : n * 3 ≤ g) (hcs : cs.length = g) (ho : M[o]? = some (.mem cs)) :
    AC E 22 [.sl 3 o 0 n g, iv k] M (fun r M' => r = iv (k + 3 * n) ∧ ∃ cs', cs'.length = g ∧ M' = M.set o (.mem cs')) := by
  refine AC.body (fn := Try.f22) Try.func22 rfl rfl (by simp [Try.f22]) fun hcl => ?_
  simp only [Try.f22]
  have hlt := lt_of_obj ho
  have hset : ∀ x, (M.set o x)[o]? = some x := fun x => List.getElem?_set_self hlt
  have hM0 : ∃ cs', cs'.length = g ∧ M = M.set o (.mem cs') := ⟨cs, hcs, (set_self ho).symm⟩
  have hk0 : k + 3 * ((0 : Nat) : Int) = k := by simp
  try (simp (decide := true) only [ax, tabs, s0, Int.reduceToNat, ho, hcs])
  repeat (first
    | refine AW.seq ?_
    | refine AW.blockS ?_
    | ((first | refine AW.skip ?_ | refine AW.exit ?_ | refine AW.opsN rfl ?_ | refine AW.ret ?_); try (simp (decide := true) only [ax, tabs, s0, Int.reduceToNat, ho, hcs]))
    | (refine AW.condT ?_ ?_; (focus (simp (decide := true) only [ax, tabs, s0, Int.reduceToNat, ho, hcs]; done)))
    | (refine AW.condF ?_ ?_; (focus (simp (decide := true) only [ax, tabs, s0, Int.reduceToNat, ho, hcs]; done))))
  refine AW.gen fun T0_ hT0_ => ?_
  have z0_0 := congrFun hT0_ 0
  have z0_1 := congrFun hT0_ 1
  have z0_5 := congrFun hT0_ 5
  try (simp (decide := true) only [ax, tabs, s0, Int.reduceToNat, ho, hcs, hk0] at z0_0 z0_1 z0_5)
  clear hT0_
  refine AW.blockP (fun T M' => AgT [0] T T0_ ∧ T 1 = iv (k + 3 * ((n) : Nat)) ∧ (∃ cs' : List AV, cs'.length = g ∧ M' = M.set o (.mem cs')) ∧ True) (AW.loop (fun d T M' => ∃ i : Nat, i + d = n ∧ AgT [0] T T0_ ∧ T 5 = iv i ∧ T 1 = iv (k + 3 * (i : Nat)) ∧ (∃ cs' : List AV, cs'.length = g ∧ M' = M.set o (.mem cs')) ∧ True) (n) ⟨0, by omega, AgT_refl _ _, (by first | (simp (decide := true) only [ax, tabs, s0, Int.reduceToNat, z0_0, z0_1, z0_5, ho, hcs, hk0]; done) | (simp (decide := true) only [ax, tabs, s0, Int.reduceToNat, z0_0, z0_1, z0_5, ho, hcs, hk0]; rfl) | rfl | (intros; omega) | (simp (decide := true) only [ax, tabs, s0, Int.reduceToNat, z0_0, z0_1, z0_5, ho, hcs, hk0]; exact Tell.nil _) | (simp (decide := true) only [ax, tabs, s0, Int.reduceToNat, z0_0, z0_1, z0_5, ho, hcs, hk0]; exact Or.inl ⟨rfl, rfl⟩)), (by first | (simp (decide := true) only [ax, tabs, s0, Int.reduceToNat, z0_0, z0_1, z0_5, ho, hcs, hk0]; done) | (simp (decide := true) only [ax, tabs, s0, Int.reduceToNat, z0_0, z0_1, z0_5, ho, hcs, hk0]; rfl) | rfl | (intros; omega) | (simp (decide := true) only [ax, tabs, s0, Int.reduceToNat, z0_0, z0_1, z0_5, ho, hcs, hk0]; exact Tell.nil _) | (simp (decide := true) only [ax, tabs, s0, Int.reduceToNat, z0_0, z0_1, z0_5, ho, hcs, hk0]; exact Or.inl ⟨rfl, rfl⟩)), (by first | (simp (decide := true) only [ax, tabs, s0, Int.reduceToNat, z0_0, z0_1, z0_5, ho, hcs, hk0]; done) | (simp (decide := true) only [ax, tabs, s0, Int.reduceToNat, z0_0, z0_1, z0_5, ho, hcs, hk0]; rfl) | rfl | (intros; omega) | (simp (decide := true) only [ax, tabs, s0, Int.reduceToNat, z0_0, z0_1, z0_5, ho, hcs, hk0]; exact Tell.nil _) | (simp (decide := true) only [ax, tabs, s0, Int.reduceToNat, z0_0, z0_1, z0_5, ho, hcs, hk0]; exact Or.inl ⟨rfl, rfl⟩)), (by first | trivial | rfl | assumption | exact List.prefix_rfl | (simp; done) | (simp (decide := true) only [ax, tabs, s0, Int.reduceToNat, z0_0, z0_1, z0_5, ho, hcs, hk0]; done))⟩ ?_) ?_
  · rintro d T M' ⟨i, hd, fr, hI, h1, ⟨cs', hc', rfl⟩, _⟩
    have y0_0 := (fr 0 (by decide)).trans z0_0
    try (simp (decide := true) only [ax, tabs, s0, Int.reduceToNat, y0_0, h1, hI, hset, hc'])
    repeat (first
      | refine AW.seq ?_
      | refine AW.blockS ?_
      | ((first | refine AW.skip ?_ | refine AW.exit ?_ | refine AW.opsN rfl ?_ | refine AW.ret ?_); try (simp (decide := true) only [ax, tabs, s0, Int.reduceToNat, y0_0, h1, hI, hset, hc']))
      | (refine AW.condT ?_ ?_; (focus (simp (decide := true) only [ax, tabs, s0, Int.reduceToNat, y0_0, h1, hI, hset, hc']; done)))
      | (refine AW.condF ?_ ?_; (focus (simp (decide := true) only [ax, tabs, s0, Int.reduceToNat, y0_0, h1, hI, hset, hc']; done))))
    repeat refine AW.seq ?_
    refine AW.cond (decide ((i : Int) < ((n : Nat) : Int))) (by simp (decide := true) only [ax, tabs, s0, Int.reduceToNat, y0_0, h1, hI, hset, hc']) (fun h => ?_) (fun h => ?_)
    · have hi : i < n := by have := of_decide_eq_true h; omega
      have w := wrap_succ (i := i) (by omega)
      have w1 : IntKind.i64.wrap (k + 3 * (i : Int) + 1) = k + 3 * (i : Int) + 1 := wrap_in (by omega) (by omega)
      have w2 : IntKind.i64.wrap (k + 3 * (i : Int) + 1 + 1) = k + 3 * (i : Int) + 2 := by rw [wrap_in (by omega) (by omega)]; omega
      have w3 : IntKind.i64.wrap (k + 3 * (i : Int) + 2 + 1) = k + 3 * (i + 1 : Nat) := by rw [wrap_in (by omega) (by omega)]; omega
      have c1 : i * 3 + 1 ≤ g := by omega
      have c2 : i * 3 + 1 + 1 ≤ g := by omega
      have c3 : i * 3 + 2 + 1 ≤ g := by omega
      have p1 : ∀ (cs : List AV) (j : Nat) (a : AV), cs.length = g → j + 1 ≤ g → (putA' cs j [a]).length = g := fun cs j a h1 h2 => by rw [putA'_length (by simp; omega), h1]
      have q1 := p1 cs' (i * 3) (iv (k + 3 * (i : Int))) hc' c1
      have q2 := p1 _ (i * 3 + 1) (iv (k + 3 * (i : Int) + 1)) q1 c2
      have q3 := p1 _ (i * 3 + 2) (iv (k + 3 * (i : Int) + 2)) q2 c3
      try (simp (decide := true) only [ax, tabs, s0, Int.reduceToNat, y0_0, h1, hI, hset, hc', hi, w, w1, w2, w3, c1, c2, c3, q1, q2, q3, Nat.zero_add, Nat.add_zero])
      repeat (first
        | refine AW.seq ?_
        | refine AW.blockS ?_
        | ((first | refine AW.skip ?_ | refine AW.exit ?_ | refine AW.opsN rfl ?_ | refine AW.ret ?_); try (simp (decide := true) only [ax, tabs, s0, Int.reduceToNat, y0_0, h1, hI, hset, hc', hi, w, w1, w2, w3, c1, c2, c3, q1, q2, q3, Nat.zero_add, Nat.add_zero]))
        | (refine AW.condT ?_ ?_; (focus (simp (decide := true) only [ax, tabs, s0, Int.reduceToNat, y0_0, h1, hI, hset, hc', hi, w, w1, w2, w3, c1, c2, c3, q1, q2, q3, Nat.zero_add, Nat.add_zero]; done)))
        | (refine AW.condF ?_ ?_; (focus (simp (decide := true) only [ax, tabs, s0, Int.reduceToNat, y0_0, h1, hI, hset, hc', hi, w, w1, w2, w3, c1, c2, c3, q1, q2, q3, Nat.zero_add, Nat.add_zero]; done))))
      exact ⟨d - 1, by omega, i + 1, by omega, by simp (decide := true) only [ax, tabs, s0, Int.reduceToNat, AgT_cons, AgT_nil, and_true, y0_0, z0_0], by simp (decide := true) only [ax, tabs, s0, Int.reduceToNat, w], by simp (decide := true) only [ax, tabs, s0, Int.reduceToNat, w3], _, q3, rfl⟩
    · have hi : i = n := by have := of_decide_eq_false h; omega
      subst hi
      try (simp (decide := true) only [ax, tabs, s0, Int.reduceToNat, y0_0, h1, hI])
      repeat (first
        | refine AW.seq ?_
        | refine AW.blockS ?_
        | ((first | refine AW.skip ?_ | refine AW.exit ?_ | refine AW.opsN rfl ?_ | refine AW.ret ?_); try (simp (decide := true) only [ax, tabs, s0, Int.reduceToNat, y0_0, h1, hI]))
        | (refine AW.condT ?_ ?_; (focus (simp (decide := true) only [ax, tabs, s0, Int.reduceToNat, y0_0, h1, hI]; done)))
        | (refine AW.condF ?_ ?_; (focus (simp (decide := true) only [ax, tabs, s0, Int.reduceToNat, y0_0, h1, hI]; done))))
      try (simp (decide := true) only [ax, tabs, s0, Int.reduceToNat, AgT_cons, AgT_nil, and_true, true_and, y0_0, z0_0, h1])
      repeat' (first | exact ⟨cs', hc', rfl⟩ | assumption | apply And.intro)
  · rintro T M' ⟨fr, h1, ⟨cs', hc', rfl⟩, _⟩
    try (simp (decide := true) only [ax, tabs, s0, Int.reduceToNat, h1])
    repeat (first
      | refine AW.seq ?_
      | refine AW.blockS ?_
      | ((first | refine AW.skip ?_ | refine AW.exit ?_ | refine AW.opsN rfl ?_ | refine AW.ret ?_); try (simp (decide := true) only [ax, tabs, s0, Int.reduceToNat, h1]))
      | (refine AW.condT ?_ ?_; (focus (simp (decide := true) only [ax, tabs, s0, Int.reduceToNat, h1]; done)))
      | (refine AW.condF ?_ ?_; (focus (simp (decide := true) only [ax, tabs, s0, Int.reduceToNat, h1]; done))))
    refine leftN (.inr rfl) (by simp) (by simp (decide := true) only [ax, tabs, s0, Int.reduceToNat]; rfl) rfl (.of_scal rfl) ⟨rfl, cs', hc', rfl⟩
theorem markPuzzle_row (p : Int) (n g : Nat) (cs : List AV) (k : Int) (o : Nat) (M : List AO) (hk : 0 ≤ k ∧ k ≤ 1000000000) (hl : n ≤ 1000000000) (hg : n * 3 ≤ g) (hcs : cs.length = g) (ho : M[o]? = some (.mem cs)) :
    AC E 10 [.agg [iv p, .sl 3 o 0 n g], iv k] M (fun r M' => r = iv (k + 3 * n) ∧ ∃ cs' J, cs'.length = g ∧ M' = M.set o (.mem cs') ++ J) := by
  refine AC.body (fn := Try.f10) Try.func10 rfl rfl (by simp [Try.f10]) fun hcl => ?_
  simp only [Try.f10]
  have hlt := lt_of_obj ho
  try (simp (decide := true) only [ax, tabs, s0, Int.reduceToNat])
  repeat (first
    | refine AW.seq ?_
    | refine AW.blockS ?_
    | ((first | refine AW.skip ?_ | refine AW.exit ?_ | refine AW.opsN rfl ?_ | refine AW.ret ?_); try (simp (decide := true) only [ax, tabs, s0, Int.reduceToNat]))
    | (refine AW.condT ?_ ?_; (focus (simp (decide := true) only [ax, tabs, s0, Int.reduceToNat]; done)))
    | (refine AW.condF ?_ ?_; (focus (simp (decide := true) only [ax, tabs, s0, Int.reduceToNat]; done))))
  refine (markClueS_row n g cs k o _ hk hl hg hcs (by rw [List.getElem?_append_left hlt]; exact ho)).mono ?_
  rintro _ M' ⟨rfl, cs', hc', rfl⟩
  rw [List.set_append_left _ _ hlt]
  try (simp (decide := true) only [ax, tabs, s0, Int.reduceToNat])
  repeat (first
    | refine AW.seq ?_
    | refine AW.blockS ?_
    | ((first | refine AW.skip ?_ | refine AW.exit ?_ | refine AW.opsN rfl ?_ | refine AW.ret ?_); try (simp (decide := true) only [ax, tabs, s0, Int.reduceToNat]))
    | (refine AW.condT ?_ ?_; (focus (simp (decide := true) only [ax, tabs, s0, Int.reduceToNat]; done)))
    | (refine AW.condF ?_ ?_; (focus (simp (decide := true) only [ax, tabs, s0, Int.reduceToNat]; done))))
  refine leftN (.inr rfl) (by simp) (by simp (decide := true) only [ax, tabs, s0, Int.reduceToNat]; rfl) rfl (.of_scal rfl) ⟨rfl, cs', _, hc', rfl⟩
theorem eqIntS_lend (L w : List Int) (o : Nat) (M : List AO) (hL : L.length ≤ 1000000000) (ho : M[o]? = some (.mem (ints L))) : AC E 8 [.sl 1 o 0 L.length L.length, .fz 1 (ints w)] M (fun r M' => r = .bool (decide (L = w)) ∧ M' = M) :=
  .lend (.cons (tell_ints ho (Nat.zero_le _)) (.cons (.same _ (.fz _ _ (Els.ints 0 w).cl)) .nil)) (eqIntS_ok L w [] hL) rfl
theorem eqIntS_nil (w : List Int) (M : List AO) : AC E 8 [.nils, .fz 1 (ints w)] M (fun r M' => r = .bool (decide ([] = w)) ∧ M' = M) :=
  .lend (.cons (.nil 1) (.cons (.same _ (.fz _ _ (Els.ints 0 w).cl)) .nil)) (eqIntS_ok [] w [] (by simp)) rfl
theorem heldIntS_lend (k : Int) (n o : Nat) (M : List AO) (hk : 0 ≤ k ∧ k ≤ 1000000000) (hl : n ≤ 1000000000) (ho : M[o]? = some (.mem (ints (marks k n)))) : AC E 12 [.sl 1 o 0 n n, iv k] M (fun r M' => r = iv (k + n) ∧ M' = M) := by
  have ht := tell_ints (M' := M) (n := 0) (o := o) (xs := marks k n) ho (Nat.zero_le _)
  rw [marks_length] at ht
  exact .lend (.cons ht (.cons (.scal rfl) .nil)) (heldIntS_ok k n [] hk hl) rfl
theorem heldIntS_nil (k : Int) (M : List AO) (hk : 0 ≤ k ∧ k ≤ 1000000000) : AC E 12 [.nils, iv k] M (fun r M' => r = iv k ∧ M' = M) := by
  have h := heldIntS_ok k 0 [] hk (by omega)
  rw [show k + ((0 : Nat) : Int) = k by simp] at h
  exact .lend (.cons (.nil 1) (.cons (.scal rfl) .nil)) h rfl
theorem markIntS_nil (k : Int) (M : List AO) (hk : 0 ≤ k ∧ k ≤ 1000000000) : AC E 11 [.nils, iv k] M (fun r M' => r = iv k ∧ M' = M) := by
  refine AC.body (fn := Try.f11) Try.func11 rfl rfl (by simp [Try.f11]) fun hcl => ?_
  simp only [Try.f11]
  try (simp (decide := true) only [ax, tabs, s0, Int.reduceToNat])
  repeat (first
    | refine AW.seq ?_
    | refine AW.blockS ?_
    | ((first | refine AW.skip ?_ | refine AW.exit ?_ | refine AW.opsN rfl ?_ | refine AW.ret ?_); try (simp (decide := true) only [ax, tabs, s0, Int.reduceToNat]))
    | (refine AW.condT ?_ ?_; (focus (simp (decide := true) only [ax, tabs, s0, Int.reduceToNat]; done)))
    | (refine AW.condF ?_ ?_; (focus (simp (decide := true) only [ax, tabs, s0, Int.reduceToNat]; done))))
  refine AW.block (AW.once ?_)
  try (simp (decide := true) only [ax, tabs, s0, Int.reduceToNat])
  repeat (first
    | refine AW.seq ?_
    | refine AW.blockS ?_
    | ((first | refine AW.skip ?_ | refine AW.exit ?_ | refine AW.opsN rfl ?_ | refine AW.ret ?_); try (simp (decide := true) only [ax, tabs, s0, Int.reduceToNat]))
    | (refine AW.condT ?_ ?_; (focus (simp (decide := true) only [ax, tabs, s0, Int.reduceToNat]; done)))
    | (refine AW.condF ?_ ?_; (focus (simp (decide := true) only [ax, tabs, s0, Int.reduceToNat]; done))))
  first
    | refine leftJ (.inr rfl) hcl (Nat.le_refl _) (by simp (decide := true) only [ax, tabs, s0, Int.reduceToNat]; rfl) ?_ rfl ⟨rfl, rfl⟩
    | refine leftS (.inr rfl) hcl (Nat.le_refl _) (by simp (decide := true) only [ax, tabs, s0, Int.reduceToNat]; rfl) ?_ rfl ⟨rfl, rfl⟩
  simp (decide := true) only [ax, tabs, s0, Int.reduceToNat]
theorem eqPuzzle_lend (p q : Int) (a b : List Clu) (o : Nat) (M : List AO) (ha : a.length ≤ 1000000000) (ho : M[o]? = some (.mem (cells a))) : AC E 9 [.agg [iv p, .sl 3 o 0 a.length (a.length * 3)], pv q b] M (fun r M' => r = .bool (decide (p = q ∧ a = b)) ∧ M' = M) :=
  .lend (.cons (tell_agg (.cons (.scal rfl) (.cons (tell_clues ho (Nat.zero_le _)) .nil))) (.cons (.same _ (.agg2 (.int _ _) (.fz _ _ (Els.clues 0 b).cl))) .nil)) (eqPuzzle_ok p q a b [] ha) rfl
end Go.Ax
