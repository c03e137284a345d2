/- Marks over clues. -/
import Derived.Test.YtnbfoiidlbfbeaaGreatP26
set_option linter.unusedVariables false
set_option linter.unusedSimpArgs false
namespace Go.Ax
open Go.Proofs

def mkC (k : Int) (n : Nat) : List Clu := (List.range n).map fun (j : Nat) => (k + 3 * j, k + 3 * j + 1, k + 3 * j + 2)
theorem mkC_length (k : Int) (n : Nat) : (mkC k n).length = n := by simp [mkC]
theorem mkC_succ (k : Int) (n : Nat) : mkC k (n + 1) = mkC k n ++ [(k + 3 * n, k + 3 * n + 1, k + 3 * n + 2)] := by simp [mkC, List.range_succ]
theorem mkC_get {k : Int} {n i : Nat} (h : i < n) : ((mkC k n).map cv).getD i .any = .agg [iv (k + 3 * i), iv (k + 3 * i + 1), iv (k + 3 * i + 2)] := by
  rw [cv_get (by rw [mkC_length]; exact h)]
  simp [mkC, cv]
theorem put1 (pre tl : List AV) (r a : AV) (m : Nat) (hm : pre.length = m) : putA' (pre ++ r :: tl) m [a] = pre ++ a :: tl := by
  subst hm
  simp [putA', List.take_append, List.drop_append]
theorem put3 (pre tl : List AV) (r0 r1 r2 a b c : AV) (m : Nat) (hm : pre.length = m) : putA' (putA' (putA' (pre ++ r0 :: r1 :: r2 :: tl) m [a]) (m + 1) [b]) (m + 2) [c] = pre ++ a :: b :: c :: tl := by
  rw [put1 _ _ _ _ _ hm]
  have e1 : ∀ x : List AV, pre ++ a :: x = (pre ++ [a]) ++ x := fun x => by simp
  have e2 : ∀ x : List AV, pre ++ a :: b :: x = (pre ++ [a, b]) ++ x := fun x => by simp
  rw [e1, put1 _ _ _ _ _ (by simp [hm]), ← e1, e2, put1 _ _ _ _ _ (by simp [hm]), ← e2]
theorem mkC_put {k : Int} {i : Nat} {cs : List AV} (h : i * 3 + 2 + 1 ≤ cs.length) : putA' (putA' (putA' (cells (mkC k i) ++ cs.drop (i * 3)) (i * 3) [iv (k + 3 * i)]) (i * 3 + 1) [iv (k + 3 * i + 1)]) (i * 3 + 2) [iv (k + 3 * i + 2)] = cells (mkC k (i + 1)) ++ cs.drop ((i + 1) * 3) := by
  have e : cs.drop (i * 3) = cs[i * 3] :: cs[i * 3 + 1] :: cs[i * 3 + 2] :: cs.drop ((i + 1) * 3) := by
    rw [List.drop_eq_getElem_cons (by omega), List.drop_eq_getElem_cons (by omega), List.drop_eq_getElem_cons (by omega)]
    rw [show i * 3 + 1 + 1 + 1 = (i + 1) * 3 by omega]
  rw [e, put3 _ _ _ _ _ _ _ _ _ (by rw [cells_length, mkC_length]), mkC_succ, cells_append, List.append_assoc]
  rfl
theorem markClueS_marks (n g : Nat) (cs : List AV) (k : Int) (o : Nat) (M : List AO) (hk : 0 ≤ k ∧ k ≤ 1000000000) (hl : n ≤ 1000000000) (hg : n * 3 ≤ g) (hcs : cs.length = g) (ho : M[o]? = some (.mem cs)) :
    AC E 72 [.sl 3 o 0 n g, iv k] M (fun r M' => r = iv (k + 3 * n) ∧ M' = M.set o (.mem (cells (mkC k n) ++ cs.drop (n * 3)))) := by
  refine AC.body (fn := Tryz.f72) Tryz.func72 rfl rfl (by simp [Tryz.f72]) fun hcl => ?_
  simp only [Tryz.f72]
  have hlt := lt_of_obj ho
  have hset : ∀ x, (M.set o x)[o]? = some x := fun x => List.getElem?_set_self hlt
  have hM0 : ∃ cs' : List AV, cs'.length = g ∧ cs' = cells (mkC k 0) ++ cs.drop (0 * 3) ∧ M = M.set o (.mem cs') := ⟨cs, hcs, by simp [mkC, cells, flat], (set_self ho).symm⟩
  have hk0 : k + 3 * ((0 : Nat) : Int) = k := by simp
  try (simp (decide := true) only [ax, tabs, s0, Int.reduceToNat, ho, hcs])
  repeat (first
    | refine AW.seq ?_
    | refine AW.blockS ?_
    | ((first | refine AW.skip ?_ | refine AW.exit ?_ | refine AW.opsN rfl ?_ | refine AW.ret ?_); try (simp (decide := true) only [ax, tabs, s0, Int.reduceToNat, ho, hcs]))
    | (refine AW.condT ?_ ?_; (focus (simp (decide := true) only [ax, tabs, s0, Int.reduceToNat, ho, hcs]; done)))
    | (refine AW.condF ?_ ?_; (focus (simp (decide := true) only [ax, tabs, s0, Int.reduceToNat, ho, hcs]; done))))
  refine AW.gen fun T0_ hT0_ => ?_
  have z0_0 := congrFun hT0_ 0
  have z0_1 := congrFun hT0_ 1
  have z0_5 := congrFun hT0_ 5
  try (simp (decide := true) only [ax, tabs, s0, Int.reduceToNat, ho, hcs, hk0] at z0_0 z0_1 z0_5)
  clear hT0_
  refine AW.blockP (fun T M' => AgT [0] T T0_ ∧ T 1 = iv (k + 3 * ((n) : Nat)) ∧ (∃ cs' : List AV, cs'.length = g ∧ cs' = cells (mkC k (n)) ++ cs.drop ((n) * 3) ∧ M' = M.set o (.mem cs')) ∧ True) (AW.loop (fun d T M' => ∃ i : Nat, i + d = n ∧ AgT [0] T T0_ ∧ T 5 = iv i ∧ T 1 = iv (k + 3 * (i : Nat)) ∧ (∃ cs' : List AV, cs'.length = g ∧ cs' = cells (mkC k i) ++ cs.drop (i * 3) ∧ M' = M.set o (.mem cs')) ∧ True) (n) ⟨0, by omega, AgT_refl _ _, (by first | (simp (decide := true) only [ax, tabs, s0, Int.reduceToNat, z0_0, z0_1, z0_5, ho, hcs, hk0]; done) | (simp (decide := true) only [ax, tabs, s0, Int.reduceToNat, z0_0, z0_1, z0_5, ho, hcs, hk0]; rfl) | rfl | (intros; omega) | (simp (decide := true) only [ax, tabs, s0, Int.reduceToNat, z0_0, z0_1, z0_5, ho, hcs, hk0]; exact Tell.nil _) | (simp (decide := true) only [ax, tabs, s0, Int.reduceToNat, z0_0, z0_1, z0_5, ho, hcs, hk0]; exact Or.inl ⟨rfl, rfl⟩)), (by first | (simp (decide := true) only [ax, tabs, s0, Int.reduceToNat, z0_0, z0_1, z0_5, ho, hcs, hk0]; done) | (simp (decide := true) only [ax, tabs, s0, Int.reduceToNat, z0_0, z0_1, z0_5, ho, hcs, hk0]; rfl) | rfl | (intros; omega) | (simp (decide := true) only [ax, tabs, s0, Int.reduceToNat, z0_0, z0_1, z0_5, ho, hcs, hk0]; exact Tell.nil _) | (simp (decide := true) only [ax, tabs, s0, Int.reduceToNat, z0_0, z0_1, z0_5, ho, hcs, hk0]; exact Or.inl ⟨rfl, rfl⟩)), (by first | (simp (decide := true) only [ax, tabs, s0, Int.reduceToNat, z0_0, z0_1, z0_5, ho, hcs, hk0]; done) | (simp (decide := true) only [ax, tabs, s0, Int.reduceToNat, z0_0, z0_1, z0_5, ho, hcs, hk0]; rfl) | rfl | (intros; omega) | (simp (decide := true) only [ax, tabs, s0, Int.reduceToNat, z0_0, z0_1, z0_5, ho, hcs, hk0]; exact Tell.nil _) | (simp (decide := true) only [ax, tabs, s0, Int.reduceToNat, z0_0, z0_1, z0_5, ho, hcs, hk0]; exact Or.inl ⟨rfl, rfl⟩)), (by first | trivial | rfl | assumption | exact List.prefix_rfl | (simp; done) | (simp (decide := true) only [ax, tabs, s0, Int.reduceToNat, z0_0, z0_1, z0_5, ho, hcs, hk0]; done))⟩ ?_) ?_
  · rintro d T M' ⟨i, hd, fr, hI, h1, ⟨cs', hc', hcc, rfl⟩, _⟩
    have y0_0 := (fr 0 (by decide)).trans z0_0
    try (simp (decide := true) only [ax, tabs, s0, Int.reduceToNat, y0_0, h1, hI, hset, hc'])
    repeat (first
      | refine AW.seq ?_
      | refine AW.blockS ?_
      | ((first | refine AW.skip ?_ | refine AW.exit ?_ | refine AW.opsN rfl ?_ | refine AW.ret ?_); try (simp (decide := true) only [ax, tabs, s0, Int.reduceToNat, y0_0, h1, hI, hset, hc']))
      | (refine AW.condT ?_ ?_; (focus (simp (decide := true) only [ax, tabs, s0, Int.reduceToNat, y0_0, h1, hI, hset, hc']; done)))
      | (refine AW.condF ?_ ?_; (focus (simp (decide := true) only [ax, tabs, s0, Int.reduceToNat, y0_0, h1, hI, hset, hc']; done))))
    repeat refine AW.seq ?_
    refine AW.cond (decide ((i : Int) < ((n : Nat) : Int))) (by simp (decide := true) only [ax, tabs, s0, Int.reduceToNat, y0_0, h1, hI, hset, hc']) (fun h => ?_) (fun h => ?_)
    · have hi : i < n := by have := of_decide_eq_true h; omega
      have w := wrap_succ (i := i) (by omega)
      have w1 : IntKind.i64.wrap (k + 3 * (i : Int) + 1) = k + 3 * (i : Int) + 1 := wrap_in (by omega) (by omega)
      have w2 : IntKind.i64.wrap (k + 3 * (i : Int) + 1 + 1) = k + 3 * (i : Int) + 2 := by rw [wrap_in (by omega) (by omega)]; omega
      have w3 : IntKind.i64.wrap (k + 3 * (i : Int) + 2 + 1) = k + 3 * (i + 1 : Nat) := by rw [wrap_in (by omega) (by omega)]; omega
      have c1 : i * 3 + 1 ≤ g := by omega
      have c2 : i * 3 + 1 + 1 ≤ g := by omega
      have c3 : i * 3 + 2 + 1 ≤ g := by omega
      have p1 : ∀ (cs : List AV) (j : Nat) (a : AV), cs.length = g → j + 1 ≤ g → (putA' cs j [a]).length = g := fun cs j a h1 h2 => by rw [putA'_length (by simp; omega), h1]
      have q1 := p1 cs' (i * 3) (iv (k + 3 * (i : Int))) hc' c1
      have q2 := p1 _ (i * 3 + 1) (iv (k + 3 * (i : Int) + 1)) q1 c2
      have q3 := p1 _ (i * 3 + 2) (iv (k + 3 * (i : Int) + 2)) q2 c3
      try (simp (decide := true) only [ax, tabs, s0, Int.reduceToNat, y0_0, h1, hI, hset, hc', hi, w, w1, w2, w3, c1, c2, c3, q1, q2, q3, Nat.zero_add, Nat.add_zero])
      repeat (first
        | refine AW.seq ?_
        | refine AW.blockS ?_
        | ((first | refine AW.skip ?_ | refine AW.exit ?_ | refine AW.opsN rfl ?_ | refine AW.ret ?_); try (simp (decide := true) only [ax, tabs, s0, Int.reduceToNat, y0_0, h1, hI, hset, hc', hi, w, w1, w2, w3, c1, c2, c3, q1, q2, q3, Nat.zero_add, Nat.add_zero]))
        | (refine AW.condT ?_ ?_; (focus (simp (decide := true) only [ax, tabs, s0, Int.reduceToNat, y0_0, h1, hI, hset, hc', hi, w, w1, w2, w3, c1, c2, c3, q1, q2, q3, Nat.zero_add, Nat.add_zero]; done)))
        | (refine AW.condF ?_ ?_; (focus (simp (decide := true) only [ax, tabs, s0, Int.reduceToNat, y0_0, h1, hI, hset, hc', hi, w, w1, w2, w3, c1, c2, c3, q1, q2, q3, Nat.zero_add, Nat.add_zero]; done))))
      exact ⟨d - 1, by omega, i + 1, by omega, by simp (decide := true) only [ax, tabs, s0, Int.reduceToNat, AgT_cons, AgT_nil, and_true, y0_0, z0_0], by simp (decide := true) only [ax, tabs, s0, Int.reduceToNat, w], by simp (decide := true) only [ax, tabs, s0, Int.reduceToNat, w3], _, q3, by rw [hcc]; exact mkC_put (by omega), rfl⟩
    · have hi : i = n := by have := of_decide_eq_false h; omega
      subst hi
      try (simp (decide := true) only [ax, tabs, s0, Int.reduceToNat, y0_0, h1, hI])
      repeat (first
        | refine AW.seq ?_
        | refine AW.blockS ?_
        | ((first | refine AW.skip ?_ | refine AW.exit ?_ | refine AW.opsN rfl ?_ | refine AW.ret ?_); try (simp (decide := true) only [ax, tabs, s0, Int.reduceToNat, y0_0, h1, hI]))
        | (refine AW.condT ?_ ?_; (focus (simp (decide := true) only [ax, tabs, s0, Int.reduceToNat, y0_0, h1, hI]; done)))
        | (refine AW.condF ?_ ?_; (focus (simp (decide := true) only [ax, tabs, s0, Int.reduceToNat, y0_0, h1, hI]; done))))
      try (simp (decide := true) only [ax, tabs, s0, Int.reduceToNat, AgT_cons, AgT_nil, and_true, true_and, y0_0, z0_0, h1])
      repeat' (first | exact ⟨cs', hc', hcc, rfl⟩ | assumption | apply And.intro)
  · rintro T M' ⟨fr, h1, ⟨cs', hc', rfl, rfl⟩, _⟩
    try (simp (decide := true) only [ax, tabs, s0, Int.reduceToNat, h1])
    repeat (first
      | refine AW.seq ?_
      | refine AW.blockS ?_
      | ((first | refine AW.skip ?_ | refine AW.exit ?_ | refine AW.opsN rfl ?_ | refine AW.ret ?_); try (simp (decide := true) only [ax, tabs, s0, Int.reduceToNat, h1]))
      | (refine AW.condT ?_ ?_; (focus (simp (decide := true) only [ax, tabs, s0, Int.reduceToNat, h1]; done)))
      | (refine AW.condF ?_ ?_; (focus (simp (decide := true) only [ax, tabs, s0, Int.reduceToNat, h1]; done))))
    refine leftN (.inr rfl) (by simp) (by simp (decide := true) only [ax, tabs, s0, Int.reduceToNat]; rfl) rfl (.of_scal rfl) ⟨rfl, rfl⟩
theorem markPuzzle_marks (p : Int) (n g : Nat) (cs : List AV) (k : Int) (o : Nat) (M : List AO) (hk : 0 ≤ k ∧ k ≤ 1000000000) (hl : n ≤ 1000000000) (hg : n * 3 ≤ g) (hcs : cs.length = g) (ho : M[o]? = some (.mem cs)) :
    AC E 33 [.agg [iv p, .sl 3 o 0 n g], iv k] M (fun r M' => r = iv (k + 3 * n) ∧ ∃ J, M' = M.set o (.mem (cells (mkC k n) ++ cs.drop (n * 3))) ++ J) := by
  refine AC.body (fn := Tryz.f33) Tryz.func33 rfl rfl (by simp [Tryz.f33]) fun hcl => ?_
  simp only [Tryz.f33]
  have hlt := lt_of_obj ho
  try (simp (decide := true) only [ax, tabs, s0, Int.reduceToNat])
  repeat (first
    | refine AW.seq ?_
    | refine AW.blockS ?_
    | ((first | refine AW.skip ?_ | refine AW.exit ?_ | refine AW.opsN rfl ?_ | refine AW.ret ?_); try (simp (decide := true) only [ax, tabs, s0, Int.reduceToNat]))
    | (refine AW.condT ?_ ?_; (focus (simp (decide := true) only [ax, tabs, s0, Int.reduceToNat]; done)))
    | (refine AW.condF ?_ ?_; (focus (simp (decide := true) only [ax, tabs, s0, Int.reduceToNat]; done))))
  refine (markClueS_marks n g cs k o _ hk hl hg hcs (by rw [List.getElem?_append_left hlt]; exact ho)).mono ?_
  rintro _ M' ⟨rfl, rfl⟩
  rw [List.set_append_left _ _ hlt]
  try (simp (decide := true) only [ax, tabs, s0, Int.reduceToNat])
  repeat (first
    | refine AW.seq ?_
    | refine AW.blockS ?_
    | ((first | refine AW.skip ?_ | refine AW.exit ?_ | refine AW.opsN rfl ?_ | refine AW.ret ?_); try (simp (decide := true) only [ax, tabs, s0, Int.reduceToNat]))
    | (refine AW.condT ?_ ?_; (focus (simp (decide := true) only [ax, tabs, s0, Int.reduceToNat]; done)))
    | (refine AW.condF ?_ ?_; (focus (simp (decide := true) only [ax, tabs, s0, Int.reduceToNat]; done))))
  refine leftN (.inr rfl) (by simp) (by simp (decide := true) only [ax, tabs, s0, Int.reduceToNat]; rfl) rfl (.of_scal rfl) ⟨rfl, _, rfl⟩
theorem markPuzzle_nil (p k : Int) (M : List AO) : AC E 33 [.agg [iv p, .nils], iv k] M (fun r M' => r = iv k ∧ M' = M) := by
  have h : ∀ M, AC E 72 [.nils, iv k] M (fun r M' => r = iv k ∧ M' = M) := by
    intro M
    refine AC.body (fn := Tryz.f72) Tryz.func72 rfl rfl (by simp [Tryz.f72]) fun hcl => ?_
    simp only [Tryz.f72]
    try (simp (decide := true) only [ax, tabs, s0, Int.reduceToNat])
    repeat (first
      | refine AW.seq ?_
      | refine AW.blockS ?_
      | ((first | refine AW.skip ?_ | refine AW.exit ?_ | refine AW.opsN rfl ?_ | refine AW.ret ?_); try (simp (decide := true) only [ax, tabs, s0, Int.reduceToNat]))
      | (refine AW.condT ?_ ?_; (focus (simp (decide := true) only [ax, tabs, s0, Int.reduceToNat]; done)))
      | (refine AW.condF ?_ ?_; (focus (simp (decide := true) only [ax, tabs, s0, Int.reduceToNat]; done))))
    refine AW.block (AW.once ?_)
    try (simp (decide := true) only [ax, tabs, s0, Int.reduceToNat])
    repeat (first
      | refine AW.seq ?_
      | refine AW.blockS ?_
      | ((first | refine AW.skip ?_ | refine AW.exit ?_ | refine AW.opsN rfl ?_ | refine AW.ret ?_); try (simp (decide := true) only [ax, tabs, s0, Int.reduceToNat]))
      | (refine AW.condT ?_ ?_; (focus (simp (decide := true) only [ax, tabs, s0, Int.reduceToNat]; done)))
      | (refine AW.condF ?_ ?_; (focus (simp (decide := true) only [ax, tabs, s0, Int.reduceToNat]; done))))
    first
      | refine leftJ (.inr rfl) hcl (Nat.le_refl _) (by simp (decide := true) only [ax, tabs, s0, Int.reduceToNat]; rfl) ?_ rfl ⟨rfl, rfl⟩
      | refine leftS (.inr rfl) hcl (Nat.le_refl _) (by simp (decide := true) only [ax, tabs, s0, Int.reduceToNat]; rfl) ?_ rfl ⟨rfl, rfl⟩
    simp (decide := true) only [ax, tabs, s0, Int.reduceToNat]
  refine AC.body (fn := Tryz.f33) Tryz.func33 rfl rfl (by simp [Tryz.f33]) fun hcl => ?_
  simp only [Tryz.f33]
  try (simp (decide := true) only [ax, tabs, s0, Int.reduceToNat])
  repeat (first
    | refine AW.seq ?_
    | refine AW.blockS ?_
    | ((first | refine AW.skip ?_ | refine AW.exit ?_ | refine AW.opsN rfl ?_ | refine AW.ret ?_); try (simp (decide := true) only [ax, tabs, s0, Int.reduceToNat]))
    | (refine AW.condT ?_ ?_; (focus (simp (decide := true) only [ax, tabs, s0, Int.reduceToNat]; done)))
    | (refine AW.condF ?_ ?_; (focus (simp (decide := true) only [ax, tabs, s0, Int.reduceToNat]; done))))
  refine AC.det (h _) ?_
  try (simp (decide := true) only [ax, tabs, s0, Int.reduceToNat])
  try (simp (decide := true) only [ax, tabs, s0, Int.reduceToNat])
  repeat (first
    | refine AW.seq ?_
    | refine AW.blockS ?_
    | ((first | refine AW.skip ?_ | refine AW.exit ?_ | refine AW.opsN rfl ?_ | refine AW.ret ?_); try (simp (decide := true) only [ax, tabs, s0, Int.reduceToNat]))
    | (refine AW.condT ?_ ?_; (focus (simp (decide := true) only [ax, tabs, s0, Int.reduceToNat]; done)))
    | (refine AW.condF ?_ ?_; (focus (simp (decide := true) only [ax, tabs, s0, Int.reduceToNat]; done))))
  first
    | refine leftJ (.inr rfl) hcl (Nat.le_refl _) (by simp (decide := true) only [ax, tabs, s0, Int.reduceToNat]; rfl) ?_ rfl ⟨rfl, rfl⟩
    | refine leftS (.inr rfl) hcl (Nat.le_refl _) (by simp (decide := true) only [ax, tabs, s0, Int.reduceToNat]; rfl) ?_ rfl ⟨rfl, rfl⟩
  simp (decide := true) only [ax, tabs, s0, Int.reduceToNat]
theorem heldClueS_ok (k : Int) (n : Nat) (M : List AO) (hk : 0 ≤ k ∧ k ≤ 1000000000) (hl : n ≤ 1000000000) : AC E 73 [.fz 3 ((mkC k n).map cv), iv k] M (fun r M' => r = iv (k + 3 * n) ∧ M' = M) := by
  refine AC.body (fn := Tryz.f73) Tryz.func73 rfl rfl (by simp [Tryz.f73]) fun hcl => ?_
  simp only [Tryz.f73]
  have hk0 : k + 3 * ((0 : Nat) : Int) = k := by simp
  try (simp (decide := true) only [ax, tabs, s0, Int.reduceToNat, List.length_map, mkC_length])
  repeat (first
    | refine AW.seq ?_
    | refine AW.blockS ?_
    | ((first | refine AW.skip ?_ | refine AW.exit ?_ | refine AW.opsN rfl ?_ | refine AW.ret ?_); try (simp (decide := true) only [ax, tabs, s0, Int.reduceToNat, List.length_map, mkC_length]))
    | (refine AW.condT ?_ ?_; (focus (simp (decide := true) only [ax, tabs, s0, Int.reduceToNat, List.length_map, mkC_length]; done)))
    | (refine AW.condF ?_ ?_; (focus (simp (decide := true) only [ax, tabs, s0, Int.reduceToNat, List.length_map, mkC_length]; done))))
  refine AW.gen fun T0_ hT0_ => ?_
  have z0_0 := congrFun hT0_ 0
  have z0_1 := congrFun hT0_ 1
  have z0_5 := congrFun hT0_ 5
  try (simp (decide := true) only [ax, tabs, s0, Int.reduceToNat, List.length_map, mkC_length, hk0] at z0_0 z0_1 z0_5)
  clear hT0_
  refine AW.blockP (fun T M' => AgT [0] T T0_ ∧ T 1 = iv (k + 3 * ((n) : Nat)) ∧ M' = M) (AW.loop (fun d T M' => ∃ i : Nat, i + d = n ∧ AgT [0] T T0_ ∧ T 5 = iv i ∧ T 1 = iv (k + 3 * (i : Nat)) ∧ M' = M) (n) ⟨0, by omega, AgT_refl _ _, (by first | (simp (decide := true) only [ax, tabs, s0, Int.reduceToNat, z0_0, z0_1, z0_5, List.length_map, mkC_length, hk0]; done) | (simp (decide := true) only [ax, tabs, s0, Int.reduceToNat, z0_0, z0_1, z0_5, List.length_map, mkC_length, hk0]; rfl) | rfl | (intros; omega) | (simp (decide := true) only [ax, tabs, s0, Int.reduceToNat, z0_0, z0_1, z0_5, List.length_map, mkC_length, hk0]; exact Tell.nil _) | (simp (decide := true) only [ax, tabs, s0, Int.reduceToNat, z0_0, z0_1, z0_5, List.length_map, mkC_length, hk0]; exact Or.inl ⟨rfl, rfl⟩)), (by first | (simp (decide := true) only [ax, tabs, s0, Int.reduceToNat, z0_0, z0_1, z0_5, List.length_map, mkC_length, hk0]; done) | (simp (decide := true) only [ax, tabs, s0, Int.reduceToNat, z0_0, z0_1, z0_5, List.length_map, mkC_length, hk0]; rfl) | rfl | (intros; omega) | (simp (decide := true) only [ax, tabs, s0, Int.reduceToNat, z0_0, z0_1, z0_5, List.length_map, mkC_length, hk0]; exact Tell.nil _) | (simp (decide := true) only [ax, tabs, s0, Int.reduceToNat, z0_0, z0_1, z0_5, List.length_map, mkC_length, hk0]; exact Or.inl ⟨rfl, rfl⟩)), (by first | trivial | rfl | assumption | exact List.prefix_rfl | (simp; done) | (simp (decide := true) only [ax, tabs, s0, Int.reduceToNat, z0_0, z0_1, z0_5, List.length_map, mkC_length, hk0]; done))⟩ ?_) ?_
  · rintro d T M' ⟨i, hd, fr, hI, h1, rfl⟩
    have y0_0 := (fr 0 (by decide)).trans z0_0
    try (simp (decide := true) only [ax, tabs, s0, Int.reduceToNat, y0_0, h1, hI, List.length_map, mkC_length])
    repeat (first
      | refine AW.seq ?_
      | refine AW.blockS ?_
      | ((first | refine AW.skip ?_ | refine AW.exit ?_ | refine AW.opsN rfl ?_ | refine AW.ret ?_); try (simp (decide := true) only [ax, tabs, s0, Int.reduceToNat, y0_0, h1, hI, List.length_map, mkC_length]))
      | (refine AW.condT ?_ ?_; (focus (simp (decide := true) only [ax, tabs, s0, Int.reduceToNat, y0_0, h1, hI, List.length_map, mkC_length]; done)))
      | (refine AW.condF ?_ ?_; (focus (simp (decide := true) only [ax, tabs, s0, Int.reduceToNat, y0_0, h1, hI, List.length_map, mkC_length]; done))))
    repeat refine AW.seq ?_
    refine AW.cond (decide ((i : Int) < ((n : Nat) : Int))) (by simp (decide := true) only [ax, tabs, s0, Int.reduceToNat, y0_0, h1, hI, List.length_map, mkC_length]) (fun h => ?_) (fun h => ?_)
    · have hi : i < n := by have := of_decide_eq_true h; omega
      have g := mkC_get (k := k) hi
      have e0 : decide (k + 3 * (i : Int) ≠ k + 3 * i) = false := decide_eq_false (by simp)
      have e1 : decide (k + 3 * (i : Int) + 1 ≠ k + 3 * i + 1) = false := decide_eq_false (by simp)
      have e2 : decide (k + 3 * (i : Int) + 2 ≠ k + 3 * i + 2) = false := decide_eq_false (by simp)
      have w := wrap_succ (i := i) (by omega)
      have w1 : IntKind.i64.wrap (k + 3 * (i : Int) + 1) = k + 3 * (i : Int) + 1 := wrap_in (by omega) (by omega)
      have w2 : IntKind.i64.wrap (k + 3 * (i : Int) + 1 + 1) = k + 3 * (i : Int) + 2 := by rw [wrap_in (by omega) (by omega)]; omega
      have w3 : IntKind.i64.wrap (k + 3 * (i : Int) + 2 + 1) = k + 3 * (i + 1 : Nat) := by rw [wrap_in (by omega) (by omega)]; omega
      try (simp (decide := true) only [ax, tabs, s0, Int.reduceToNat, y0_0, h1, hI, List.length_map, mkC_length, hi, g, w, w1, w2, w3, e0, e1, e2])
      repeat (first
        | refine AW.seq ?_
        | refine AW.blockS ?_
        | ((first | refine AW.skip ?_ | refine AW.exit ?_ | refine AW.opsN rfl ?_ | refine AW.ret ?_); try (simp (decide := true) only [ax, tabs, s0, Int.reduceToNat, y0_0, h1, hI, List.length_map, mkC_length, hi, g, w, w1, w2, w3, e0, e1, e2]))
        | (refine AW.condT ?_ ?_; (focus (simp (decide := true) only [ax, tabs, s0, Int.reduceToNat, y0_0, h1, hI, List.length_map, mkC_length, hi, g, w, w1, w2, w3, e0, e1, e2]; done)))
        | (refine AW.condF ?_ ?_; (focus (simp (decide := true) only [ax, tabs, s0, Int.reduceToNat, y0_0, h1, hI, List.length_map, mkC_length, hi, g, w, w1, w2, w3, e0, e1, e2]; done))))
      refine ⟨d - 1, by omega, i + 1, by omega, ?_⟩
      simp (decide := true) only [ax, tabs, s0, Int.reduceToNat, AgT_cons, AgT_nil, and_true, true_and, y0_0, z0_0, h1, w, w3]
    · have hi : i = n := by have := of_decide_eq_false h; omega
      subst hi
      try (simp (decide := true) only [ax, tabs, s0, Int.reduceToNat, y0_0, hI, List.length_map, mkC_length])
      repeat (first
        | refine AW.seq ?_
        | refine AW.blockS ?_
        | ((first | refine AW.skip ?_ | refine AW.exit ?_ | refine AW.opsN rfl ?_ | refine AW.ret ?_); try (simp (decide := true) only [ax, tabs, s0, Int.reduceToNat, y0_0, hI, List.length_map, mkC_length]))
        | (refine AW.condT ?_ ?_; (focus (simp (decide := true) only [ax, tabs, s0, Int.reduceToNat, y0_0, hI, List.length_map, mkC_length]; done)))
        | (refine AW.condF ?_ ?_; (focus (simp (decide := true) only [ax, tabs, s0, Int.reduceToNat, y0_0, hI, List.length_map, mkC_length]; done))))
      try (simp (decide := true) only [ax, tabs, s0, Int.reduceToNat, AgT_cons, AgT_nil, and_true, true_and, y0_0, z0_0, h1])
      repeat' (first | assumption | rfl | exact List.prefix_append _ _ | apply And.intro)
  · rintro T M' ⟨fr, h1, rfl⟩
    have y0_0 := (fr 0 (by decide)).trans z0_0
    try (simp (decide := true) only [ax, tabs, s0, Int.reduceToNat, h1])
    repeat (first
      | refine AW.seq ?_
      | refine AW.blockS ?_
      | ((first | refine AW.skip ?_ | refine AW.exit ?_ | refine AW.opsN rfl ?_ | refine AW.ret ?_); try (simp (decide := true) only [ax, tabs, s0, Int.reduceToNat, h1]))
      | (refine AW.condT ?_ ?_; (focus (simp (decide := true) only [ax, tabs, s0, Int.reduceToNat, h1]; done)))
      | (refine AW.condF ?_ ?_; (focus (simp (decide := true) only [ax, tabs, s0, Int.reduceToNat, h1]; done))))
    first
      | refine leftJ (.inr rfl) hcl (Nat.le_refl _) (by simp (decide := true) only [ax, tabs, s0, Int.reduceToNat]; rfl) ?_ rfl ⟨rfl, rfl⟩
      | refine leftS (.inr rfl) hcl (Nat.le_refl _) (by simp (decide := true) only [ax, tabs, s0, Int.reduceToNat]; rfl) ?_ rfl ⟨rfl, rfl⟩
    simp (decide := true) only [ax, tabs, s0, Int.reduceToNat]
theorem heldPuzzle_ok (p k : Int) (n : Nat) (M : List AO) (hk : 0 ≤ k ∧ k ≤ 1000000000) (hl : n ≤ 1000000000) : AC E 34 [pv p (mkC k n), iv k] M (fun r M' => r = iv (k + 3 * n) ∧ M' = M) := by
  refine AC.body (fn := Tryz.f34) Tryz.func34 rfl rfl (by simp [Tryz.f34]) fun hcl => ?_
  simp only [Tryz.f34]
  have e : decide (k + 3 * (n : Int) < 0) = false := decide_eq_false (by omega)
  try (simp (decide := true) only [ax, tabs, s0, Int.reduceToNat, pv])
  repeat (first
    | refine AW.seq ?_
    | refine AW.blockS ?_
    | ((first | refine AW.skip ?_ | refine AW.exit ?_ | refine AW.opsN rfl ?_ | refine AW.ret ?_); try (simp (decide := true) only [ax, tabs, s0, Int.reduceToNat, pv]))
    | (refine AW.condT ?_ ?_; (focus (simp (decide := true) only [ax, tabs, s0, Int.reduceToNat, pv]; done)))
    | (refine AW.condF ?_ ?_; (focus (simp (decide := true) only [ax, tabs, s0, Int.reduceToNat, pv]; done))))
  refine AC.det (heldClueS_ok k n _ hk hl) ?_
  try (simp (decide := true) only [ax, tabs, s0, Int.reduceToNat, e])
  try (simp (decide := true) only [ax, tabs, s0, Int.reduceToNat, e])
  repeat (first
    | refine AW.seq ?_
    | refine AW.blockS ?_
    | ((first | refine AW.skip ?_ | refine AW.exit ?_ | refine AW.opsN rfl ?_ | refine AW.ret ?_); try (simp (decide := true) only [ax, tabs, s0, Int.reduceToNat, e]))
    | (refine AW.condT ?_ ?_; (focus (simp (decide := true) only [ax, tabs, s0, Int.reduceToNat, e]; done)))
    | (refine AW.condF ?_ ?_; (focus (simp (decide := true) only [ax, tabs, s0, Int.reduceToNat, e]; done))))
  first
    | refine leftJ (.inr rfl) hcl (Nat.le_refl _) (by simp (decide := true) only [ax, tabs, s0, Int.reduceToNat]; rfl) ?_ rfl ⟨rfl, rfl⟩
    | refine leftS (.inr rfl) hcl (Nat.le_refl _) (by simp (decide := true) only [ax, tabs, s0, Int.reduceToNat]; rfl) ?_ rfl ⟨rfl, rfl⟩
  simp (decide := true) only [ax, tabs, s0, Int.reduceToNat]
theorem tell_lp {K : List AO} {o : Nat} {p : Int} {cs : List Clu} {z : List AV} (ho : K[o]? = some (.mem (cells cs ++ z))) : Tell K 0 (.agg [iv p, .sl 3 o 0 cs.length (cells cs ++ z).length]) (pv p cs) :=
  tell_agg (.cons (.scal rfl) (.cons (tell_pre ho (Nat.zero_le _)) .nil))
theorem tell_pv {K : List AO} (p : Int) (cs : List Clu) : Tell K 0 (pv p cs) (pv p cs) := .same _ (.agg2 (.int _ _) (.fz _ _ (Els.clues 0 cs).cl))
theorem tell_nn {K : List AO} (p : Int) : Tell K 0 (.agg [iv p, .nils]) (pv p []) := tell_agg (.cons (.scal rfl) (.cons (.nil 3) .nil))
theorem eqPuzzle_lp (p q : Int) (a b : List Clu) (z : List AV) (o : Nat) (M : List AO) (ha : a.length ≤ 1000000000) (ho : M[o]? = some (.mem (cells a ++ z))) : AC E 32 [.agg [iv p, .sl 3 o 0 a.length (cells a ++ z).length], pv q b] M (fun r M' => r = .bool (decide (p = q ∧ a = b)) ∧ M' = M) :=
  .lend (.cons (tell_lp ho) (.cons (tell_pv ..) .nil)) (eqPuzzle_ok p q a b [] ha) rfl
theorem eqPuzzle_nn (p q : Int) (M : List AO) : AC E 32 [.agg [iv p, .nils], .agg [iv q, .nils]] M (fun r M' => r = .bool (decide (p = q ∧ ([] : List Clu) = [])) ∧ M' = M) :=
  .lend (.cons (tell_nn p) (.cons (tell_nn q) .nil)) (eqPuzzle_ok p q [] [] [] (by simp)) rfl
theorem heldPuzzle_lp (p k : Int) (n o : Nat) (z : List AV) (M : List AO) (hk : 0 ≤ k ∧ k ≤ 1000000000) (hl : n ≤ 1000000000) (ho : M[o]? = some (.mem (cells (mkC k n) ++ z))) : AC E 34 [.agg [iv p, .sl 3 o 0 n (cells (mkC k n) ++ z).length], iv k] M (fun r M' => r = iv (k + 3 * n) ∧ M' = M) := by
  have ht := tell_lp (p := p) ho
  rw [mkC_length] at ht
  exact .lend (.cons ht (.cons (.scal rfl) .nil)) (heldPuzzle_ok p k n [] hk hl) rfl
theorem heldPuzzle_nn (p k : Int) (M : List AO) (hk : 0 ≤ k ∧ k ≤ 1000000000) : AC E 34 [.agg [iv p, .nils], iv k] M (fun r M' => r = iv k ∧ M' = M) := by
  have h := heldPuzzle_ok p k 0 [] hk (by omega)
  rw [show k + 3 * ((0 : Nat) : Int) = k by simp] at h
  exact .lend (.cons (tell_nn p) (.cons (.scal rfl) .nil)) h rfl
end Go.Ax
