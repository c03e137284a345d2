/- Marks on what lives, and what is held. -/
import Derived.Test.YtnbfoiidlbfbeaaGreatP22
set_option linter.unusedVariables false
set_option linter.unusedSimpArgs false
namespace Go.Ax
open Go.Proofs

def marks (k : Int) (n : Nat) : List Int := (List.range n).map fun (i : Nat) => k + i
theorem marks_length (k : Int) (n : Nat) : (marks k n).length = n := by simp [marks]
theorem marks_succ (k : Int) (n : Nat) : marks k (n + 1) = marks k n ++ [k + n] := by simp [marks, List.range_succ]
theorem marks_get {k : Int} {n i : Nat} (h : i < n) : (marks k n).getD i 0 = k + i := by simp [marks, List.getD_eq_getElem?_getD, h]
/-- The first i of a list are marked. -/
def markL (k : Int) (xs : List Int) (i : Nat) : List Int := (List.range xs.length).map fun (j : Nat) => if j < i then k + j else xs.getD j 0
theorem markL_length (k : Int) (xs : List Int) (i : Nat) : (markL k xs i).length = xs.length := by simp [markL]
theorem markL_zero (k : Int) (xs : List Int) : markL k xs 0 = xs := by
  apply List.ext_getElem
  · simp [markL]
  · intro j h1 h2
    simp [markL, List.getD_eq_getElem?_getD, List.getElem?_eq_getElem h2]
theorem markL_all (k : Int) (xs : List Int) : markL k xs xs.length = marks k xs.length := by
  unfold markL marks
  apply List.map_congr_left
  intro j hj
  rw [if_pos (List.mem_range.1 hj)]
theorem markL_put {k : Int} {xs : List Int} {i : Nat} (hi : i < xs.length) : putA' (ints (markL k xs i)) i [iv (k + i)] = ints (markL k xs (i + 1)) := by
  rw [putA'_one (by rw [ints_length, markL_length]; exact hi), ints_set]
  congr 1
  apply List.ext_getElem
  · simp [markL]
  · intro j h1 h2
    rw [List.getElem_set]
    by_cases e : i = j
    · subst e; simp [markL]
    · rw [if_neg e]
      simp only [markL, List.getElem_map, List.getElem_range]
      by_cases hj : j < i
      · rw [if_pos hj, if_pos (by omega)]
      · rw [if_neg hj, if_neg (by omega)]
theorem eqPuzzle_ok (p q : Int) (a b : List Clu) (M : List AO) (ha : a.length ≤ 1000000000) : AC E 32 [pv p a, pv q b] M (fun r M' => r = .bool (decide (p = q ∧ a = b)) ∧ M' = M) := by
  refine AC.body (fn := Tryz.f32) Tryz.func32 rfl rfl (by simp [Tryz.f32]) fun hcl => ?_
  simp only [Tryz.f32]
  try (simp (decide := true) only [ax, tabs, s0, Int.reduceToNat, pv])
  repeat (first
    | refine AW.seq ?_
    | refine AW.blockS ?_
    | ((first | refine AW.skip ?_ | refine AW.exit ?_ | refine AW.opsN rfl ?_ | refine AW.ret ?_); try (simp (decide := true) only [ax, tabs, s0, Int.reduceToNat, pv]))
    | (refine AW.condT ?_ ?_; (focus (simp (decide := true) only [ax, tabs, s0, Int.reduceToNat, pv]; done)))
    | (refine AW.condF ?_ ?_; (focus (simp (decide := true) only [ax, tabs, s0, Int.reduceToNat, pv]; done))))
  repeat refine AW.seq ?_
  refine AW.cond (decide (p ≠ q)) (by simp (decide := true) only [ax, tabs, s0, Int.reduceToNat]) (fun h => ?_) (fun h => ?_)
  · have h' : ¬ (p = q ∧ a = b) := fun h2 => by simp [h2.1] at h
    try (simp (decide := true) only [ax, tabs, s0, Int.reduceToNat])
    repeat (first
      | refine AW.seq ?_
      | refine AW.blockS ?_
      | ((first | refine AW.skip ?_ | refine AW.exit ?_ | refine AW.opsN rfl ?_ | refine AW.ret ?_); try (simp (decide := true) only [ax, tabs, s0, Int.reduceToNat]))
      | (refine AW.condT ?_ ?_; (focus (simp (decide := true) only [ax, tabs, s0, Int.reduceToNat]; done)))
      | (refine AW.condF ?_ ?_; (focus (simp (decide := true) only [ax, tabs, s0, Int.reduceToNat]; done))))
    first
      | refine leftJ (.inr rfl) hcl (Nat.le_refl _) (by simp (decide := true) only [ax, tabs, s0, Int.reduceToNat]; rfl) ?_ rfl ⟨rfl, rfl⟩
      | refine leftS (.inr rfl) hcl (Nat.le_refl _) (by simp (decide := true) only [ax, tabs, s0, Int.reduceToNat]; rfl) ?_ rfl ⟨rfl, rfl⟩
    simp (decide := true) only [ax, tabs, s0, Int.reduceToNat, decide_eq_false h']
  have e1 : p = q := by simpa using h
  try (simp (decide := true) only [ax, tabs, s0, Int.reduceToNat])
  repeat (first
    | refine AW.seq ?_
    | refine AW.blockS ?_
    | ((first | refine AW.skip ?_ | refine AW.exit ?_ | refine AW.opsN rfl ?_ | refine AW.ret ?_); try (simp (decide := true) only [ax, tabs, s0, Int.reduceToNat]))
    | (refine AW.condT ?_ ?_; (focus (simp (decide := true) only [ax, tabs, s0, Int.reduceToNat]; done)))
    | (refine AW.condF ?_ ?_; (focus (simp (decide := true) only [ax, tabs, s0, Int.reduceToNat]; done))))
  refine AC.det (eqClueS_ok a b _ ha) ?_
  by_cases h2 : a = b
  · rw [decide_eq_true h2, decide_eq_true (show p = q ∧ a = b from ⟨e1, h2⟩)]
    try (simp (decide := true) only [ax, tabs, s0, Int.reduceToNat])
    repeat (first
      | refine AW.seq ?_
      | refine AW.blockS ?_
      | ((first | refine AW.skip ?_ | refine AW.exit ?_ | refine AW.opsN rfl ?_ | refine AW.ret ?_); try (simp (decide := true) only [ax, tabs, s0, Int.reduceToNat]))
      | (refine AW.condT ?_ ?_; (focus (simp (decide := true) only [ax, tabs, s0, Int.reduceToNat]; done)))
      | (refine AW.condF ?_ ?_; (focus (simp (decide := true) only [ax, tabs, s0, Int.reduceToNat]; done))))
    first
      | refine leftJ (.inr rfl) hcl (Nat.le_refl _) (by simp (decide := true) only [ax, tabs, s0, Int.reduceToNat]; rfl) ?_ rfl ⟨rfl, rfl⟩
      | refine leftS (.inr rfl) hcl (Nat.le_refl _) (by simp (decide := true) only [ax, tabs, s0, Int.reduceToNat]; rfl) ?_ rfl ⟨rfl, rfl⟩
    simp (decide := true) only [ax, tabs, s0, Int.reduceToNat]
  · rw [decide_eq_false h2, decide_eq_false (show ¬ (p = q ∧ a = b) from fun h => h2 h.2)]
    try (simp (decide := true) only [ax, tabs, s0, Int.reduceToNat])
    repeat (first
      | refine AW.seq ?_
      | refine AW.blockS ?_
      | ((first | refine AW.skip ?_ | refine AW.exit ?_ | refine AW.opsN rfl ?_ | refine AW.ret ?_); try (simp (decide := true) only [ax, tabs, s0, Int.reduceToNat]))
      | (refine AW.condT ?_ ?_; (focus (simp (decide := true) only [ax, tabs, s0, Int.reduceToNat]; done)))
      | (refine AW.condF ?_ ?_; (focus (simp (decide := true) only [ax, tabs, s0, Int.reduceToNat]; done))))
    first
      | refine leftJ (.inr rfl) hcl (Nat.le_refl _) (by simp (decide := true) only [ax, tabs, s0, Int.reduceToNat]; rfl) ?_ rfl ⟨rfl, rfl⟩
      | refine leftS (.inr rfl) hcl (Nat.le_refl _) (by simp (decide := true) only [ax, tabs, s0, Int.reduceToNat]; rfl) ?_ rfl ⟨rfl, rfl⟩
    simp (decide := true) only [ax, tabs, s0, Int.reduceToNat]
theorem markClueS_row (n g : Nat) (cs : List AV) (k : Int) (o : Nat) (M : List AO) (hk : 0 ≤ k ∧ k ≤ 1000000000) (hl : n ≤ 1000000000) (hg : n * 3 ≤ g) (hcs : cs.length = g) (ho : M[o]? = some (.mem cs)) :
    AC E 72 [.sl 3 o 0 n g, iv k] M (fun r M' => r = iv (k + 3 * n) ∧ ∃ cs', cs'.length = g ∧ M' = M.set o (.mem cs')) := by
  refine AC.body (fn := Tryz.f72) Tryz.func72 rfl rfl (by simp [Tryz.f72]) fun hcl => ?_
  simp only [Tryz.f72]
  have hlt := lt_of_obj ho
  have hset : ∀ x, (M.set o x)[o]? = some x := fun x => List.getElem?_set_self hlt
  have hM0 : ∃ cs', cs'.length = g ∧ M = M.set o (.mem cs') := ⟨cs, hcs, (set_self ho).symm⟩
  have hk0 : k + 3 * ((0 : Nat) : Int) = k := by simp
  try (simp (decide := true) only [ax, tabs, s0, Int.reduceToNat, ho, hcs])
  repeat (first
    | refine AW.seq ?_
    | refine AW.blockS ?_
    | ((first | refine AW.skip ?_ | refine AW.exit ?_ | refine AW.opsN rfl ?_ | refine AW.ret ?_); try (simp (decide := true) only [ax, tabs, s0, Int.reduceToNat, ho, hcs]))
    | (refine AW.condT ?_ ?_; (focus (simp (decide := true) only [ax, tabs, s0, Int.reduceToNat, ho, hcs]; done)))
    | (refine AW.condF ?_ ?_; (focus (simp (decide := true) only [ax, tabs, s0, Int.reduceToNat, ho, hcs]; done))))
  refine AW.gen fun T0_ hT0_ => ?_
  have z0_0 := congrFun hT0_ 0
  have z0_1 := congrFun hT0_ 1
  have z0_5 := congrFun hT0_ 5
  try (simp (decide := true) only [ax, tabs, s0, Int.reduceToNat, ho, hcs, hk0] at z0_0 z0_1 z0_5)
  clear hT0_
  refine AW.blockP (fun T M' => AgT [0] T T0_ ∧ T 1 = iv (k + 3 * ((n) : Nat)) ∧ (∃ cs' : List AV, cs'.length = g ∧ M' = M.set o (.mem cs')) ∧ True) (AW.loop (fun d T M' => ∃ i : Nat, i + d = n ∧ AgT [0] T T0_ ∧ T 5 = iv i ∧ T 1 = iv (k + 3 * (i : Nat)) ∧ (∃ cs' : List AV, cs'.length = g ∧ M' = M.set o (.mem cs')) ∧ True) (n) ⟨0, by omega, AgT_refl _ _, (by first | (simp (decide := true) only [ax, tabs, s0, Int.reduceToNat, z0_0, z0_1, z0_5, ho, hcs, hk0]; done) | (simp (decide := true) only [ax, tabs, s0, Int.reduceToNat, z0_0, z0_1, z0_5, ho, hcs, hk0]; rfl) | rfl | (intros; omega) | (simp (decide := true) only [ax, tabs, s0, Int.reduceToNat, z0_0, z0_1, z0_5, ho, hcs, hk0]; exact Tell.nil _) | (simp (decide := true) only [ax, tabs, s0, Int.reduceToNat, z0_0, z0_1, z0_5, ho, hcs, hk0]; exact Or.inl ⟨rfl, rfl⟩)), (by first | (simp (decide := true) only [ax, tabs, s0, Int.reduceToNat, z0_0, z0_1, z0_5, ho, hcs, hk0]; done) | (simp (decide := true) only [ax, tabs, s0, Int.reduceToNat, z0_0, z0_1, z0_5, ho, hcs, hk0]; rfl) | rfl | (intros; omega) | (simp (decide := true) only [ax, tabs, s0, Int.reduceToNat, z0_0, z0_1, z0_5, ho, hcs, hk0]; exact Tell.nil _) | (simp (decide := true) only [ax, tabs, s0, Int.reduceToNat, z0_0, z0_1, z0_5, ho, hcs, hk0]; exact Or.inl ⟨rfl, rfl⟩)), (by first | (simp (decide := true) only [ax, tabs, s0, Int.reduceToNat, z0_0, z0_1, z0_5, ho, hcs, hk0]; done) | (simp (decide := true) only [ax, tabs, s0, Int.reduceToNat, z0_0, z0_1, z0_5, ho, hcs, hk0]; rfl) | rfl | (intros; omega) | (simp (decide := true) only [ax, tabs, s0, Int.reduceToNat, z0_0, z0_1, z0_5, ho, hcs, hk0]; exact Tell.nil _) | (simp (decide := true) only [ax, tabs, s0, Int.reduceToNat, z0_0, z0_1, z0_5, ho, hcs, hk0]; exact Or.inl ⟨rfl, rfl⟩)), (by first | trivial | rfl | assumption | exact List.prefix_rfl | (simp; done) | (simp (decide := true) only [ax, tabs, s0, Int.reduceToNat, z0_0, z0_1, z0_5, ho, hcs, hk0]; done))⟩ ?_) ?_
  · rintro d T M' ⟨i, hd, fr, hI, h1, ⟨cs', hc', rfl⟩, _⟩
    have y0_0 := (fr 0 (by decide)).trans z0_0
    try (simp (decide := true) only [ax, tabs, s0, Int.reduceToNat, y0_0, h1, hI, hset, hc'])
    repeat (first
      | refine AW.seq ?_
      | refine AW.blockS ?_
      | ((first | refine AW.skip ?_ | refine AW.exit ?_ | refine AW.opsN rfl ?_ | refine AW.ret ?_); try (simp (decide := true) only [ax, tabs, s0, Int.reduceToNat, y0_0, h1, hI, hset, hc']))
      | (refine AW.condT ?_ ?_; (focus (simp (decide := true) only [ax, tabs, s0, Int.reduceToNat, y0_0, h1, hI, hset, hc']; done)))
      | (refine AW.condF ?_ ?_; (focus (simp (decide := true) only [ax, tabs, s0, Int.reduceToNat, y0_0, h1, hI, hset, hc']; done))))
    repeat refine AW.seq ?_
    refine AW.cond (decide ((i : Int) < ((n : Nat) : Int))) (by simp (decide := true) only [ax, tabs, s0, Int.reduceToNat, y0_0, h1, hI, hset, hc']) (fun h => ?_) (fun h => ?_)
    · have hi : i < n := by have := of_decide_eq_true h; omega
      have w := wrap_succ (i := i) (by omega)
      have w1 : IntKind.i64.wrap (k + 3 * (i : Int) + 1) = k + 3 * (i : Int) + 1 := wrap_in (by omega) (by omega)
      have w2 : IntKind.i64.wrap (k + 3 * (i : Int) + 1 + 1) = k + 3 * (i : Int) + 2 := by rw [wrap_in (by omega) (by omega)]; omega
      have w3 : IntKind.i64.wrap (k + 3 * (i : Int) + 2 + 1) = k + 3 * (i + 1 : Nat) := by rw [wrap_in (by omega) (by omega)]; omega
      have c1 : i * 3 + 1 ≤ g := by omega
      have c2 : i * 3 + 1 + 1 ≤ g := by omega
      have c3 : i * 3 + 2 + 1 ≤ g := by omega
      have p1 : ∀ (cs : List AV) (j : Nat) (a : AV), cs.length = g → j + 1 ≤ g → (putA' cs j [a]).length = g := fun cs j a h1 h2 => by rw [putA'_length (by simp; omega), h1]
      have q1 := p1 cs' (i * 3) (iv (k + 3 * (i : Int))) hc' c1
      have q2 := p1 _ (i * 3 + 1) (iv (k + 3 * (i : Int) + 1)) q1 c2
      have q3 := p1 _ (i * 3 + 2) (iv (k + 3 * (i : Int) + 2)) q2 c3
      try (simp (decide := true) only [ax, tabs, s0, Int.reduceToNat, y0_0, h1, hI, hset, hc', hi, w, w1, w2, w3, c1, c2, c3, q1, q2, q3, Nat.zero_add, Nat.add_zero])
      repeat (first
        | refine AW.seq ?_
        | refine AW.blockS ?_
        | ((first | refine AW.skip ?_ | refine AW.exit ?_ | refine AW.opsN rfl ?_ | refine AW.ret ?_); try (simp (decide := true) only [ax, tabs, s0, Int.reduceToNat, y0_0, h1, hI, hset, hc', hi, w, w1, w2, w3, c1, c2, c3, q1, q2, q3, Nat.zero_add, Nat.add_zero]))
        | (refine AW.condT ?_ ?_; (focus (simp (decide := true) only [ax, tabs, s0, Int.reduceToNat, y0_0, h1, hI, hset, hc', hi, w, w1, w2, w3, c1, c2, c3, q1, q2, q3, Nat.zero_add, Nat.add_zero]; done)))
        | (refine AW.condF ?_ ?_; (focus (simp (decide := true) only [ax, tabs, s0, Int.reduceToNat, y0_0, h1, hI, hset, hc', hi, w, w1, w2, w3, c1, c2, c3, q1, q2, q3, Nat.zero_add, Nat.add_zero]; done))))
      exact ⟨d - 1, by omega, i + 1, by omega, by simp (decide := true) only [ax, tabs, s0, Int.reduceToNat, AgT_cons, AgT_nil, and_true, y0_0, z0_0], by simp (decide := true) only [ax, tabs, s0, Int.reduceToNat, w], by simp (decide := true) only [ax, tabs, s0, Int.reduceToNat, w3], _, q3, rfl⟩
    · have hi : i = n := by have := of_decide_eq_false h; omega
      subst hi
      try (simp (decide := true) only [ax, tabs, s0, Int.reduceToNat, y0_0, h1, hI])
      repeat (first
        | refine AW.seq ?_
        | refine AW.blockS ?_
        | ((first | refine AW.skip ?_ | refine AW.exit ?_ | refine AW.opsN rfl ?_ | refine AW.ret ?_); try (simp (decide := true) only [ax, tabs, s0, Int.reduceToNat, y0_0, h1, hI]))
        | (refine AW.condT ?_ ?_; (focus (simp (decide := true) only [ax, tabs, s0, Int.reduceToNat, y0_0, h1, hI]; done)))
        | (refine AW.condF ?_ ?_; (focus (simp (decide := true) only [ax, tabs, s0, Int.reduceToNat, y0_0, h1, hI]; done))))
      try (simp (decide := true) only [ax, tabs, s0, Int.reduceToNat, AgT_cons, AgT_nil, and_true, true_and, y0_0, z0_0, h1])
      repeat' (first | exact ⟨cs', hc', rfl⟩ | assumption | apply And.intro)
  · rintro T M' ⟨fr, h1, ⟨cs', hc', rfl⟩, _⟩
    try (simp (decide := true) only [ax, tabs, s0, Int.reduceToNat, h1])
    repeat (first
      | refine AW.seq ?_
      | refine AW.blockS ?_
      | ((first | refine AW.skip ?_ | refine AW.exit ?_ | refine AW.opsN rfl ?_ | refine AW.ret ?_); try (simp (decide := true) only [ax, tabs, s0, Int.reduceToNat, h1]))
      | (refine AW.condT ?_ ?_; (focus (simp (decide := true) only [ax, tabs, s0, Int.reduceToNat, h1]; done)))
      | (refine AW.condF ?_ ?_; (focus (simp (decide := true) only [ax, tabs, s0, Int.reduceToNat, h1]; done))))
    refine leftN (.inr rfl) (by simp) (by simp (decide := true) only [ax, tabs, s0, Int.reduceToNat]; rfl) rfl (.of_scal rfl) ⟨rfl, cs', hc', rfl⟩
theorem markPuzzle_row (p : Int) (n g : Nat) (cs : List AV) (k : Int) (o : Nat) (M : List AO) (hk : 0 ≤ k ∧ k ≤ 1000000000) (hl : n ≤ 1000000000) (hg : n * 3 ≤ g) (hcs : cs.length = g) (ho : M[o]? = some (.mem cs)) :
    AC E 33 [.agg [iv p, .sl 3 o 0 n g], iv k] M (fun r M' => r = iv (k + 3 * n) ∧ ∃ cs' J, cs'.length = g ∧ M' = M.set o (.mem cs') ++ J) := by
  refine AC.body (fn := Tryz.f33) Tryz.func33 rfl rfl (by simp [Tryz.f33]) fun hcl => ?_
  simp only [Tryz.f33]
  have hlt := lt_of_obj ho
  try (simp (decide := true) only [ax, tabs, s0, Int.reduceToNat])
  repeat (first
    | refine AW.seq ?_
    | refine AW.blockS ?_
    | ((first | refine AW.skip ?_ | refine AW.exit ?_ | refine AW.opsN rfl ?_ | refine AW.ret ?_); try (simp (decide := true) only [ax, tabs, s0, Int.reduceToNat]))
    | (refine AW.condT ?_ ?_; (focus (simp (decide := true) only [ax, tabs, s0, Int.reduceToNat]; done)))
    | (refine AW.condF ?_ ?_; (focus (simp (decide := true) only [ax, tabs, s0, Int.reduceToNat]; done))))
  refine (markClueS_row n g cs k o _ hk hl hg hcs (by rw [List.getElem?_append_left hlt]; exact ho)).mono ?_
  rintro _ M' ⟨rfl, cs', hc', rfl⟩
  rw [List.set_append_left _ _ hlt]
  try (simp (decide := true) only [ax, tabs, s0, Int.reduceToNat])
  repeat (first
    | refine AW.seq ?_
    | refine AW.blockS ?_
    | ((first | refine AW.skip ?_ | refine AW.exit ?_ | refine AW.opsN rfl ?_ | refine AW.ret ?_); try (simp (decide := true) only [ax, tabs, s0, Int.reduceToNat]))
    | (refine AW.condT ?_ ?_; (focus (simp (decide := true) only [ax, tabs, s0, Int.reduceToNat]; done)))
    | (refine AW.condF ?_ ?_; (focus (simp (decide := true) only [ax, tabs, s0, Int.reduceToNat]; done))))
  refine leftN (.inr rfl) (by simp) (by simp (decide := true) only [ax, tabs, s0, Int.reduceToNat]; rfl) rfl (.of_scal rfl) ⟨rfl, cs', _, hc', rfl⟩
theorem eqPuzzle_lend (p q : Int) (a b : List Clu) (o : Nat) (M : List AO) (ha : a.length ≤ 1000000000) (ho : M[o]? = some (.mem (cells a))) : AC E 32 [.agg [iv p, .sl 3 o 0 a.length (a.length * 3)], pv q b] M (fun r M' => r = .bool (decide (p = q ∧ a = b)) ∧ M' = M) :=
  .lend (.cons (tell_agg (.cons (.scal rfl) (.cons (tell_clues ho (Nat.zero_le _)) .nil))) (.cons (.same _ (.agg2 (.int _ _) (.fz _ _ (Els.clues 0 b).cl))) .nil)) (eqPuzzle_ok p q a b [] ha) rfl
end Go.Ax
