/- What the laws do to arguments and results. -/
import Derived.Test.YtnbfoiidlbfbeaaGreatP21
set_option linter.unusedVariables false
set_option linter.unusedSimpArgs false
namespace Go.Ax
open Go.Proofs

theorem toClue_ok (c : Clu) (M : List AO) : AC E 90 [cv c] M (fun r M' => r = cv c ∧ M' = M) := by
  refine AC.body (fn := Tryz.f90) Tryz.func90 rfl rfl (by simp [Tryz.f90]) fun hcl => ?_
  simp only [Tryz.f90]
  try (simp (decide := true) only [ax, tabs, s0, Int.reduceToNat, cv])
  repeat (first
    | refine AW.seq ?_
    | refine AW.blockS ?_
    | ((first | refine AW.skip ?_ | refine AW.exit ?_ | refine AW.opsN rfl ?_ | refine AW.ret ?_); try (simp (decide := true) only [ax, tabs, s0, Int.reduceToNat, cv]))
    | (refine AW.condT ?_ ?_; (focus (simp (decide := true) only [ax, tabs, s0, Int.reduceToNat, cv]; done)))
    | (refine AW.condF ?_ ?_; (focus (simp (decide := true) only [ax, tabs, s0, Int.reduceToNat, cv]; done))))
  refine left (.inr rfl) hcl (Nat.le_refl _) (by simp (decide := true) only [ax, tabs, s0, Int.reduceToNat]; rfl) ?_ ⟨rfl, rfl⟩
  exact .scal rfl
def zerosC (n : Nat) : List AV := (List.replicate n [iv 0, iv 0, iv 0]).flatten
theorem zerosC_length (n : Nat) : (zerosC n).length = n * 3 := by simp [zerosC]
theorem cells_put {cs : List Clu} {i : Nat} (hi : i < cs.length) : putA' (cells (cs.take i) ++ zerosC (cs.length - i)) (i * 3) [iv cs[i].1, iv cs[i].2.1, iv cs[i].2.2] = cells (cs.take (i + 1)) ++ zerosC (cs.length - (i + 1)) := by
  have hl : (cells (cs.take i)).length = i * 3 := by rw [cells_length, List.length_take]; congr 1; omega
  obtain ⟨m, hm⟩ : ∃ m, cs.length - i = m + 1 := ⟨cs.length - i - 1, by omega⟩
  have hm2 : cs.length - (i + 1) = m := by omega
  rw [hm, hm2, List.take_succ_eq_append_getElem hi, cells_append]
  unfold putA'
  rw [List.take_append_of_le_length (by omega), List.take_of_length_le (by omega), List.drop_append, List.drop_of_length_le (by simp; omega), List.nil_append]
  have : i * 3 + [iv cs[i].1, iv cs[i].2.1, iv cs[i].2.2].length - (cells (cs.take i)).length = 3 := by rw [hl]; simp
  rw [this]
  rfl
theorem toClueS_row (cs : List Clu) (M : List AO) (hl : cs.length ≤ 2000000) : AC E 66 [.fz 3 (cs.map cv)] M (fun r M' => r = .sl 3 M.length 0 cs.length (cs.length * 3) ∧ M' = M ++ [.mem (cells cs)]) := by
  refine AC.body (fn := Tryz.f66) Tryz.func66 rfl rfl (by simp [Tryz.f66]) fun hcl => ?_
  simp only [Tryz.f66]
  have z := room (n := cs.length) (by omega)
  try (simp (decide := true) only [ax, tabs, s0, Int.reduceToNat, List.length_map, z])
  repeat (first
    | refine AW.seq ?_
    | refine AW.blockS ?_
    | ((first | refine AW.skip ?_ | refine AW.exit ?_ | refine AW.opsN rfl ?_ | refine AW.ret ?_); try (simp (decide := true) only [ax, tabs, s0, Int.reduceToNat, List.length_map, z]))
    | (refine AW.condT ?_ ?_; (focus (simp (decide := true) only [ax, tabs, s0, Int.reduceToNat, List.length_map, z]; done)))
    | (refine AW.condF ?_ ?_; (focus (simp (decide := true) only [ax, tabs, s0, Int.reduceToNat, List.length_map, z]; done))))
  refine ⟨Nat.le_refl _, by omega, ?_⟩
  have hz : zerosA [Value.int .i64 0, Value.int .i64 0, Value.int .i64 0] cs.length = zerosC cs.length := rfl
  try (simp (decide := true) only [ax, tabs, s0, Int.reduceToNat, List.length_map, hz])
  repeat (first
    | refine AW.seq ?_
    | refine AW.blockS ?_
    | ((first | refine AW.skip ?_ | refine AW.exit ?_ | refine AW.opsN rfl ?_ | refine AW.ret ?_); try (simp (decide := true) only [ax, tabs, s0, Int.reduceToNat, List.length_map, hz]))
    | (refine AW.condT ?_ ?_; (focus (simp (decide := true) only [ax, tabs, s0, Int.reduceToNat, List.length_map, hz]; done)))
    | (refine AW.condF ?_ ?_; (focus (simp (decide := true) only [ax, tabs, s0, Int.reduceToNat, List.length_map, hz]; done))))
  refine AW.gen fun T0_ hT0_ => ?_
  have z0_0 := congrFun hT0_ 0
  have z0_3 := congrFun hT0_ 3
  have z0_4 := congrFun hT0_ 4
  try (simp (decide := true) only [ax, tabs, s0, Int.reduceToNat, List.length_map] at z0_0 z0_3 z0_4)
  clear hT0_
  refine AW.blockP (fun T M' => AgT [0, 3] T T0_ ∧ T 3 = .sl 3 M.length 0 cs.length (cs.length * 3) ∧ M' = M ++ [.mem (cells (cs.take (cs.length)) ++ zerosC (cs.length - (cs.length)))]) (AW.loop (fun d T M' => ∃ i : Nat, i + d = cs.length ∧ AgT [0, 3] T T0_ ∧ T 4 = iv i ∧ T 3 = .sl 3 M.length 0 cs.length (cs.length * 3) ∧ M' = M ++ [.mem (cells (cs.take i) ++ zerosC (cs.length - i))]) (cs.length) ⟨0, by omega, AgT_refl _ _, (by first | (simp (decide := true) only [ax, tabs, s0, Int.reduceToNat, z0_0, z0_3, z0_4, List.length_map]; done) | (simp (decide := true) only [ax, tabs, s0, Int.reduceToNat, z0_0, z0_3, z0_4, List.length_map]; rfl) | rfl | (intros; omega) | (simp (decide := true) only [ax, tabs, s0, Int.reduceToNat, z0_0, z0_3, z0_4, List.length_map]; exact Tell.nil _) | (simp (decide := true) only [ax, tabs, s0, Int.reduceToNat, z0_0, z0_3, z0_4, List.length_map]; exact Or.inl ⟨rfl, rfl⟩)), (by first | (simp (decide := true) only [ax, tabs, s0, Int.reduceToNat, z0_0, z0_3, z0_4, List.length_map]; done) | (simp (decide := true) only [ax, tabs, s0, Int.reduceToNat, z0_0, z0_3, z0_4, List.length_map]; rfl) | rfl | (intros; omega) | (simp (decide := true) only [ax, tabs, s0, Int.reduceToNat, z0_0, z0_3, z0_4, List.length_map]; exact Tell.nil _) | (simp (decide := true) only [ax, tabs, s0, Int.reduceToNat, z0_0, z0_3, z0_4, List.length_map]; exact Or.inl ⟨rfl, rfl⟩)), (by first | trivial | rfl | assumption | exact List.prefix_rfl | (simp; done) | (simp (decide := true) only [ax, tabs, s0, Int.reduceToNat, z0_0, z0_3, z0_4, List.length_map]; done))⟩ ?_) ?_
  · rintro d T M' ⟨i, hd, fr, hI, h1, rfl⟩
    have y0_0 := (fr 0 (by decide)).trans z0_0
    have y0_3 := (fr 3 (by decide)).trans z0_3
    try (simp (decide := true) only [ax, tabs, s0, Int.reduceToNat, y0_0, y0_3, h1, hI, List.length_map])
    repeat (first
      | refine AW.seq ?_
      | refine AW.blockS ?_
      | ((first | refine AW.skip ?_ | refine AW.exit ?_ | refine AW.opsN rfl ?_ | refine AW.ret ?_); try (simp (decide := true) only [ax, tabs, s0, Int.reduceToNat, y0_0, y0_3, h1, hI, List.length_map]))
      | (refine AW.condT ?_ ?_; (focus (simp (decide := true) only [ax, tabs, s0, Int.reduceToNat, y0_0, y0_3, h1, hI, List.length_map]; done)))
      | (refine AW.condF ?_ ?_; (focus (simp (decide := true) only [ax, tabs, s0, Int.reduceToNat, y0_0, y0_3, h1, hI, List.length_map]; done))))
    repeat refine AW.seq ?_
    refine AW.cond (decide ((i : Int) < ((cs.length : Nat) : Int))) (by simp (decide := true) only [ax, tabs, s0, Int.reduceToNat, y0_0, y0_3, h1, hI, List.length_map]) (fun h => ?_) (fun h => ?_)
    · have hi : i < cs.length := by have := of_decide_eq_true h; omega
      try (simp (decide := true) only [ax, tabs, s0, Int.reduceToNat])
      repeat (first
        | refine AW.seq ?_
        | refine AW.blockS ?_
        | ((first | refine AW.skip ?_ | refine AW.exit ?_ | refine AW.opsN rfl ?_ | refine AW.ret ?_); try (simp (decide := true) only [ax, tabs, s0, Int.reduceToNat]))
        | (refine AW.condT ?_ ?_; (focus (simp (decide := true) only [ax, tabs, s0, Int.reduceToNat]; done)))
        | (refine AW.condF ?_ ?_; (focus (simp (decide := true) only [ax, tabs, s0, Int.reduceToNat]; done))))
      refine AW.block ?_
      have hlen : (cells (cs.take i) ++ zerosC (cs.length - i)).length = cs.length * 3 := by rw [List.length_append, cells_length, zerosC_length, List.length_take]; omega
      have c1 : i * 3 + 3 ≤ cs.length * 3 := by omega
      try (simp (decide := true) only [ax, tabs, s0, Int.reduceToNat, y0_0, h1, hI, List.length_map, hi, cv_get hi, cv])
      repeat (first
        | refine AW.seq ?_
        | refine AW.blockS ?_
        | ((first | refine AW.skip ?_ | refine AW.exit ?_ | refine AW.opsN rfl ?_ | refine AW.ret ?_); try (simp (decide := true) only [ax, tabs, s0, Int.reduceToNat, y0_0, h1, hI, List.length_map, hi, cv_get hi, cv]))
        | (refine AW.condT ?_ ?_; (focus (simp (decide := true) only [ax, tabs, s0, Int.reduceToNat, y0_0, h1, hI, List.length_map, hi, cv_get hi, cv]; done)))
        | (refine AW.condF ?_ ?_; (focus (simp (decide := true) only [ax, tabs, s0, Int.reduceToNat, y0_0, h1, hI, List.length_map, hi, cv_get hi, cv]; done))))
      refine AC.det (toClue_ok cs[i] _) ?_
      try (simp (decide := true) only [ax, tabs, s0, Int.reduceToNat, y0_0, h1, hI, List.length_map, hi, cv, hlen])
      repeat (first
        | refine AW.seq ?_
        | refine AW.blockS ?_
        | ((first | refine AW.skip ?_ | refine AW.exit ?_ | refine AW.opsN rfl ?_ | refine AW.ret ?_); try (simp (decide := true) only [ax, tabs, s0, Int.reduceToNat, y0_0, h1, hI, List.length_map, hi, cv, hlen]))
        | (refine AW.condT ?_ ?_; (focus (simp (decide := true) only [ax, tabs, s0, Int.reduceToNat, y0_0, h1, hI, List.length_map, hi, cv, hlen]; done)))
        | (refine AW.condF ?_ ?_; (focus (simp (decide := true) only [ax, tabs, s0, Int.reduceToNat, y0_0, h1, hI, List.length_map, hi, cv, hlen]; done))))
      refine ⟨c1, ?_⟩
      have w := wrap_succ (i := i) (by omega)
      have hp := cells_put hi
      try (simp (decide := true) only [ax, tabs, s0, Int.reduceToNat, hI, w])
      repeat (first
        | refine AW.seq ?_
        | refine AW.blockS ?_
        | ((first | refine AW.skip ?_ | refine AW.exit ?_ | refine AW.opsN rfl ?_ | refine AW.ret ?_); try (simp (decide := true) only [ax, tabs, s0, Int.reduceToNat, hI, w]))
        | (refine AW.condT ?_ ?_; (focus (simp (decide := true) only [ax, tabs, s0, Int.reduceToNat, hI, w]; done)))
        | (refine AW.condF ?_ ?_; (focus (simp (decide := true) only [ax, tabs, s0, Int.reduceToNat, hI, w]; done))))
      refine ⟨d - 1, by omega, i + 1, by omega, ?_⟩
      simp (decide := true) only [ax, tabs, s0, Int.reduceToNat, AgT_cons, AgT_nil, and_true, true_and, y0_0, z0_0, y0_3, z0_3, h1, w]
      exact congrArg (fun x => M ++ [AO.mem x]) hp
    · have hi : i = cs.length := by have := of_decide_eq_false h; omega
      subst hi
      try (simp (decide := true) only [ax, tabs, s0, Int.reduceToNat, y0_0, y0_3, hI])
      repeat (first
        | refine AW.seq ?_
        | refine AW.blockS ?_
        | ((first | refine AW.skip ?_ | refine AW.exit ?_ | refine AW.opsN rfl ?_ | refine AW.ret ?_); try (simp (decide := true) only [ax, tabs, s0, Int.reduceToNat, y0_0, y0_3, hI]))
        | (refine AW.condT ?_ ?_; (focus (simp (decide := true) only [ax, tabs, s0, Int.reduceToNat, y0_0, y0_3, hI]; done)))
        | (refine AW.condF ?_ ?_; (focus (simp (decide := true) only [ax, tabs, s0, Int.reduceToNat, y0_0, y0_3, hI]; done))))
      try (simp (decide := true) only [ax, tabs, s0, Int.reduceToNat, AgT_cons, AgT_nil, and_true, true_and, y0_0, z0_0, y0_3, z0_3, h1])
      repeat' (first | assumption | rfl | exact List.prefix_append _ _ | apply And.intro)
  · rintro T M' ⟨fr, h1, rfl⟩
    have y0_0 := (fr 0 (by decide)).trans z0_0
    have y0_3 := (fr 3 (by decide)).trans z0_3
    have e : cells (cs.take cs.length) ++ zerosC (cs.length - cs.length) = cells cs := by rw [List.take_length, Nat.sub_self]; simp [zerosC]
    try (simp (decide := true) only [ax, tabs, s0, Int.reduceToNat, h1])
    repeat (first
      | refine AW.seq ?_
      | refine AW.blockS ?_
      | ((first | refine AW.skip ?_ | refine AW.exit ?_ | refine AW.opsN rfl ?_ | refine AW.ret ?_); try (simp (decide := true) only [ax, tabs, s0, Int.reduceToNat, h1]))
      | (refine AW.condT ?_ ?_; (focus (simp (decide := true) only [ax, tabs, s0, Int.reduceToNat, h1]; done)))
      | (refine AW.condF ?_ ?_; (focus (simp (decide := true) only [ax, tabs, s0, Int.reduceToNat, h1]; done))))
    refine leftN (.inr rfl) (by simp) (by simp (decide := true) only [ax, tabs, s0, Int.reduceToNat]; rfl) rfl ?_ ⟨rfl, by rw [e]⟩
    exact .sl _ _ _ _ _ (by simp)
theorem szPuzzle_ok (p : Int) (cs : List Clu) (left : Int) (M : List AO) (hl : 0 ≤ left ∧ left ≤ 2000000) (hc : cs.length ≤ 9223372036854775807) :
    AC E 28 [pv p cs, iv left] M (fun r M' => r = iv (if left - cs.length < 0 then -1 else left - cs.length) ∧ M' = M) := by
  have szC : ∀ M, AC E 62 [.fz 3 (cs.map cv), iv left] M (fun r M' => r = iv (if left - cs.length < 0 then -1 else left - cs.length) ∧ M' = M) := by
    intro M
    refine AC.body (fn := Tryz.f62) Tryz.func62 rfl rfl (by simp [Tryz.f62]) fun hcl => ?_
    simp only [Tryz.f62]
    have w : IntKind.i64.wrap (left - cs.length) = left - cs.length := wrap_in (by omega) (by omega)
    try (simp (decide := true) only [ax, tabs, s0, Int.reduceToNat, List.length_map, w])
    repeat (first
      | refine AW.seq ?_
      | refine AW.blockS ?_
      | ((first | refine AW.skip ?_ | refine AW.exit ?_ | refine AW.opsN rfl ?_ | refine AW.ret ?_); try (simp (decide := true) only [ax, tabs, s0, Int.reduceToNat, List.length_map, w]))
      | (refine AW.condT ?_ ?_; (focus (simp (decide := true) only [ax, tabs, s0, Int.reduceToNat, List.length_map, w]; done)))
      | (refine AW.condF ?_ ?_; (focus (simp (decide := true) only [ax, tabs, s0, Int.reduceToNat, List.length_map, w]; done))))
    repeat refine AW.seq ?_
    refine AW.cond (decide (left - (cs.length : Int) < 0)) (by simp (decide := true) only [ax, tabs, s0, Int.reduceToNat]) (fun h => ?_) (fun h => ?_)
    · have h' := of_decide_eq_true h
      try (simp (decide := true) only [ax, tabs, s0, Int.reduceToNat])
      repeat (first
        | refine AW.seq ?_
        | refine AW.blockS ?_
        | ((first | refine AW.skip ?_ | refine AW.exit ?_ | refine AW.opsN rfl ?_ | refine AW.ret ?_); try (simp (decide := true) only [ax, tabs, s0, Int.reduceToNat]))
        | (refine AW.condT ?_ ?_; (focus (simp (decide := true) only [ax, tabs, s0, Int.reduceToNat]; done)))
        | (refine AW.condF ?_ ?_; (focus (simp (decide := true) only [ax, tabs, s0, Int.reduceToNat]; done))))
      first
        | refine leftJ (.inr rfl) hcl (Nat.le_refl _) (by simp (decide := true) only [ax, tabs, s0, Int.reduceToNat]; rfl) ?_ rfl ⟨rfl, rfl⟩
        | refine leftS (.inr rfl) hcl (Nat.le_refl _) (by simp (decide := true) only [ax, tabs, s0, Int.reduceToNat]; rfl) ?_ rfl ⟨rfl, rfl⟩
      simp (decide := true) only [ax, tabs, s0, Int.reduceToNat, if_pos h']
    · have h' := of_decide_eq_false h
      try (simp (decide := true) only [ax, tabs, s0, Int.reduceToNat])
      repeat (first
        | refine AW.seq ?_
        | refine AW.blockS ?_
        | ((first | refine AW.skip ?_ | refine AW.exit ?_ | refine AW.opsN rfl ?_ | refine AW.ret ?_); try (simp (decide := true) only [ax, tabs, s0, Int.reduceToNat]))
        | (refine AW.condT ?_ ?_; (focus (simp (decide := true) only [ax, tabs, s0, Int.reduceToNat]; done)))
        | (refine AW.condF ?_ ?_; (focus (simp (decide := true) only [ax, tabs, s0, Int.reduceToNat]; done))))
      first
        | refine leftJ (.inr rfl) hcl (Nat.le_refl _) (by simp (decide := true) only [ax, tabs, s0, Int.reduceToNat]; rfl) ?_ rfl ⟨rfl, rfl⟩
        | refine leftS (.inr rfl) hcl (Nat.le_refl _) (by simp (decide := true) only [ax, tabs, s0, Int.reduceToNat]; rfl) ?_ rfl ⟨rfl, rfl⟩
      simp (decide := true) only [ax, tabs, s0, Int.reduceToNat, if_neg h']
  refine AC.body (fn := Tryz.f28) Tryz.func28 rfl rfl (by simp [Tryz.f28]) fun hcl => ?_
  simp only [Tryz.f28]
  try (simp (decide := true) only [ax, tabs, s0, Int.reduceToNat, pv])
  repeat (first
    | refine AW.seq ?_
    | refine AW.blockS ?_
    | ((first | refine AW.skip ?_ | refine AW.exit ?_ | refine AW.opsN rfl ?_ | refine AW.ret ?_); try (simp (decide := true) only [ax, tabs, s0, Int.reduceToNat, pv]))
    | (refine AW.condT ?_ ?_; (focus (simp (decide := true) only [ax, tabs, s0, Int.reduceToNat, pv]; done)))
    | (refine AW.condF ?_ ?_; (focus (simp (decide := true) only [ax, tabs, s0, Int.reduceToNat, pv]; done))))
  refine AC.det (szC _) ?_
  try (simp (decide := true) only [ax, tabs, s0, Int.reduceToNat])
  repeat (first
    | refine AW.seq ?_
    | refine AW.blockS ?_
    | ((first | refine AW.skip ?_ | refine AW.exit ?_ | refine AW.opsN rfl ?_ | refine AW.ret ?_); try (simp (decide := true) only [ax, tabs, s0, Int.reduceToNat]))
    | (refine AW.condT ?_ ?_; (focus (simp (decide := true) only [ax, tabs, s0, Int.reduceToNat]; done)))
    | (refine AW.condF ?_ ?_; (focus (simp (decide := true) only [ax, tabs, s0, Int.reduceToNat]; done))))
  by_cases h : left - (cs.length : Int) < 0
  · rw [if_pos h]
    try (simp (decide := true) only [ax, tabs, s0, Int.reduceToNat])
    repeat (first
      | refine AW.seq ?_
      | refine AW.blockS ?_
      | ((first | refine AW.skip ?_ | refine AW.exit ?_ | refine AW.opsN rfl ?_ | refine AW.ret ?_); try (simp (decide := true) only [ax, tabs, s0, Int.reduceToNat]))
      | (refine AW.condT ?_ ?_; (focus (simp (decide := true) only [ax, tabs, s0, Int.reduceToNat]; done)))
      | (refine AW.condF ?_ ?_; (focus (simp (decide := true) only [ax, tabs, s0, Int.reduceToNat]; done))))
    first
      | refine leftJ (.inr rfl) hcl (Nat.le_refl _) (by simp (decide := true) only [ax, tabs, s0, Int.reduceToNat]; rfl) ?_ rfl ⟨rfl, rfl⟩
      | refine leftS (.inr rfl) hcl (Nat.le_refl _) (by simp (decide := true) only [ax, tabs, s0, Int.reduceToNat]; rfl) ?_ rfl ⟨rfl, rfl⟩
    simp (decide := true) only [ax, tabs, s0, Int.reduceToNat]
  · rw [if_neg h]
    have h' : decide (left - (cs.length : Int) < 0) = false := decide_eq_false h
    try (simp (decide := true) only [ax, tabs, s0, Int.reduceToNat, h'])
    repeat (first
      | refine AW.seq ?_
      | refine AW.blockS ?_
      | ((first | refine AW.skip ?_ | refine AW.exit ?_ | refine AW.opsN rfl ?_ | refine AW.ret ?_); try (simp (decide := true) only [ax, tabs, s0, Int.reduceToNat, h']))
      | (refine AW.condT ?_ ?_; (focus (simp (decide := true) only [ax, tabs, s0, Int.reduceToNat, h']; done)))
      | (refine AW.condF ?_ ?_; (focus (simp (decide := true) only [ax, tabs, s0, Int.reduceToNat, h']; done))))
    first
      | refine leftJ (.inr rfl) hcl (Nat.le_refl _) (by simp (decide := true) only [ax, tabs, s0, Int.reduceToNat]; rfl) ?_ rfl ⟨rfl, rfl⟩
      | refine leftS (.inr rfl) hcl (Nat.le_refl _) (by simp (decide := true) only [ax, tabs, s0, Int.reduceToNat]; rfl) ?_ rfl ⟨rfl, rfl⟩
    simp (decide := true) only [ax, tabs, s0, Int.reduceToNat]
theorem toPuzzle_row (p : Int) (cs : List Clu) (M : List AO) (hl : cs.length ≤ 2000000) : AC E 30 [pv p cs] M (fun r M' => r = .agg [iv p, .sl 3 (M.length + 3) 0 cs.length (cs.length * 3)] ∧ M'[M.length + 3]? = some (.mem (cells cs)) ∧ M <+: M') := by
  refine AC.body (fn := Tryz.f30) Tryz.func30 rfl rfl (by simp [Tryz.f30]) fun hcl => ?_
  simp only [Tryz.f30]
  try (simp (decide := true) only [ax, tabs, s0, Int.reduceToNat, pv])
  repeat (first
    | refine AW.seq ?_
    | refine AW.blockS ?_
    | ((first | refine AW.skip ?_ | refine AW.exit ?_ | refine AW.opsN rfl ?_ | refine AW.ret ?_); try (simp (decide := true) only [ax, tabs, s0, Int.reduceToNat, pv]))
    | (refine AW.condT ?_ ?_; (focus (simp (decide := true) only [ax, tabs, s0, Int.reduceToNat, pv]; done)))
    | (refine AW.condF ?_ ?_; (focus (simp (decide := true) only [ax, tabs, s0, Int.reduceToNat, pv]; done))))
  refine AC.det (toClueS_row cs _ hl) ?_
  try (simp (decide := true) only [ax, tabs, s0, Int.reduceToNat])
  repeat (first
    | refine AW.seq ?_
    | refine AW.blockS ?_
    | ((first | refine AW.skip ?_ | refine AW.exit ?_ | refine AW.opsN rfl ?_ | refine AW.ret ?_); try (simp (decide := true) only [ax, tabs, s0, Int.reduceToNat]))
    | (refine AW.condT ?_ ?_; (focus (simp (decide := true) only [ax, tabs, s0, Int.reduceToNat]; done)))
    | (refine AW.condF ?_ ?_; (focus (simp (decide := true) only [ax, tabs, s0, Int.reduceToNat]; done))))
  refine leftN (.inr rfl) (by simp) (by simp (decide := true) only [ax, tabs, s0, Int.reduceToNat]; rfl) rfl ?_ ⟨rfl, by simp, List.prefix_append _ _⟩
  exact .agg2 (.int _ _) (.sl _ _ _ _ _ (by simp))
theorem toPuzzle_fz (p : Int) (cs : List Clu) (M : List AO) (hl : cs.length ≤ 2000000) : AC E 30 [pv p cs] M (fun r M' => r = pv p cs ∧ M' = M) :=
  .freeze ((toPuzzle_row p cs M hl).mono fun r M' ⟨h1, h2, J, h3⟩ => by
    subst h3
    refine ⟨J, _, rfl, ?_, rfl, rfl⟩
    rw [h1]
    exact tell_agg (.cons (tell_eq rfl (.int _ _)) (.cons (tell_clues h2 (by omega)) .nil)))
theorem eqClue_ok (a b : Clu) (M : List AO) : AC E 94 [cv a, cv b] M (fun r M' => r = .bool (decide (a = b)) ∧ M' = M) := by
  refine AC.body (fn := Tryz.f94) Tryz.func94 rfl rfl (by simp [Tryz.f94]) fun hcl => ?_
  simp only [Tryz.f94]
  try (simp (decide := true) only [ax, tabs, s0, Int.reduceToNat, cv])
  repeat (first
    | refine AW.seq ?_
    | refine AW.blockS ?_
    | ((first | refine AW.skip ?_ | refine AW.exit ?_ | refine AW.opsN rfl ?_ | refine AW.ret ?_); try (simp (decide := true) only [ax, tabs, s0, Int.reduceToNat, cv]))
    | (refine AW.condT ?_ ?_; (focus (simp (decide := true) only [ax, tabs, s0, Int.reduceToNat, cv]; done)))
    | (refine AW.condF ?_ ?_; (focus (simp (decide := true) only [ax, tabs, s0, Int.reduceToNat, cv]; done))))
  repeat refine AW.seq ?_
  refine AW.cond (decide (a.1 ≠ b.1)) (by simp (decide := true) only [ax, tabs, s0, Int.reduceToNat]) (fun h => ?_) (fun h => ?_)
  · have h' : a ≠ b := by rintro rfl; simp at h
    try (simp (decide := true) only [ax, tabs, s0, Int.reduceToNat])
    repeat (first
      | refine AW.seq ?_
      | refine AW.blockS ?_
      | ((first | refine AW.skip ?_ | refine AW.exit ?_ | refine AW.opsN rfl ?_ | refine AW.ret ?_); try (simp (decide := true) only [ax, tabs, s0, Int.reduceToNat]))
      | (refine AW.condT ?_ ?_; (focus (simp (decide := true) only [ax, tabs, s0, Int.reduceToNat]; done)))
      | (refine AW.condF ?_ ?_; (focus (simp (decide := true) only [ax, tabs, s0, Int.reduceToNat]; done))))
    first
      | refine leftJ (.inr rfl) hcl (Nat.le_refl _) (by simp (decide := true) only [ax, tabs, s0, Int.reduceToNat]; rfl) ?_ rfl ⟨rfl, rfl⟩
      | refine leftS (.inr rfl) hcl (Nat.le_refl _) (by simp (decide := true) only [ax, tabs, s0, Int.reduceToNat]; rfl) ?_ rfl ⟨rfl, rfl⟩
    simp (decide := true) only [ax, tabs, s0, Int.reduceToNat, decide_eq_false h']
  have e1 : a.1 = b.1 := by simpa using h
  try (simp (decide := true) only [ax, tabs, s0, Int.reduceToNat])
  repeat (first
    | refine AW.seq ?_
    | refine AW.blockS ?_
    | ((first | refine AW.skip ?_ | refine AW.exit ?_ | refine AW.opsN rfl ?_ | refine AW.ret ?_); try (simp (decide := true) only [ax, tabs, s0, Int.reduceToNat]))
    | (refine AW.condT ?_ ?_; (focus (simp (decide := true) only [ax, tabs, s0, Int.reduceToNat]; done)))
    | (refine AW.condF ?_ ?_; (focus (simp (decide := true) only [ax, tabs, s0, Int.reduceToNat]; done))))
  repeat refine AW.seq ?_
  refine AW.cond (decide (a.2.1 ≠ b.2.1)) (by simp (decide := true) only [ax, tabs, s0, Int.reduceToNat]) (fun h => ?_) (fun h => ?_)
  · have h' : a ≠ b := by rintro rfl; simp at h
    try (simp (decide := true) only [ax, tabs, s0, Int.reduceToNat])
    repeat (first
      | refine AW.seq ?_
      | refine AW.blockS ?_
      | ((first | refine AW.skip ?_ | refine AW.exit ?_ | refine AW.opsN rfl ?_ | refine AW.ret ?_); try (simp (decide := true) only [ax, tabs, s0, Int.reduceToNat]))
      | (refine AW.condT ?_ ?_; (focus (simp (decide := true) only [ax, tabs, s0, Int.reduceToNat]; done)))
      | (refine AW.condF ?_ ?_; (focus (simp (decide := true) only [ax, tabs, s0, Int.reduceToNat]; done))))
    first
      | refine leftJ (.inr rfl) hcl (Nat.le_refl _) (by simp (decide := true) only [ax, tabs, s0, Int.reduceToNat]; rfl) ?_ rfl ⟨rfl, rfl⟩
      | refine leftS (.inr rfl) hcl (Nat.le_refl _) (by simp (decide := true) only [ax, tabs, s0, Int.reduceToNat]; rfl) ?_ rfl ⟨rfl, rfl⟩
    simp (decide := true) only [ax, tabs, s0, Int.reduceToNat, decide_eq_false h']
  have e2 : a.2.1 = b.2.1 := by simpa using h
  try (simp (decide := true) only [ax, tabs, s0, Int.reduceToNat])
  repeat (first
    | refine AW.seq ?_
    | refine AW.blockS ?_
    | ((first | refine AW.skip ?_ | refine AW.exit ?_ | refine AW.opsN rfl ?_ | refine AW.ret ?_); try (simp (decide := true) only [ax, tabs, s0, Int.reduceToNat]))
    | (refine AW.condT ?_ ?_; (focus (simp (decide := true) only [ax, tabs, s0, Int.reduceToNat]; done)))
    | (refine AW.condF ?_ ?_; (focus (simp (decide := true) only [ax, tabs, s0, Int.reduceToNat]; done))))
  repeat refine AW.seq ?_
  refine AW.cond (decide (a.2.2 ≠ b.2.2)) (by simp (decide := true) only [ax, tabs, s0, Int.reduceToNat]) (fun h => ?_) (fun h => ?_)
  · have h' : a ≠ b := by rintro rfl; simp at h
    try (simp (decide := true) only [ax, tabs, s0, Int.reduceToNat])
    repeat (first
      | refine AW.seq ?_
      | refine AW.blockS ?_
      | ((first | refine AW.skip ?_ | refine AW.exit ?_ | refine AW.opsN rfl ?_ | refine AW.ret ?_); try (simp (decide := true) only [ax, tabs, s0, Int.reduceToNat]))
      | (refine AW.condT ?_ ?_; (focus (simp (decide := true) only [ax, tabs, s0, Int.reduceToNat]; done)))
      | (refine AW.condF ?_ ?_; (focus (simp (decide := true) only [ax, tabs, s0, Int.reduceToNat]; done))))
    first
      | refine leftJ (.inr rfl) hcl (Nat.le_refl _) (by simp (decide := true) only [ax, tabs, s0, Int.reduceToNat]; rfl) ?_ rfl ⟨rfl, rfl⟩
      | refine leftS (.inr rfl) hcl (Nat.le_refl _) (by simp (decide := true) only [ax, tabs, s0, Int.reduceToNat]; rfl) ?_ rfl ⟨rfl, rfl⟩
    simp (decide := true) only [ax, tabs, s0, Int.reduceToNat, decide_eq_false h']
  have e3 : a.2.2 = b.2.2 := by simpa using h
  have h' : a = b := by obtain ⟨x, y, z⟩ := a; obtain ⟨x', y', z'⟩ := b; simp at e1 e2 e3; subst e1; subst e2; subst e3; rfl
  try (simp (decide := true) only [ax, tabs, s0, Int.reduceToNat])
  repeat (first
    | refine AW.seq ?_
    | refine AW.blockS ?_
    | ((first | refine AW.skip ?_ | refine AW.exit ?_ | refine AW.opsN rfl ?_ | refine AW.ret ?_); try (simp (decide := true) only [ax, tabs, s0, Int.reduceToNat]))
    | (refine AW.condT ?_ ?_; (focus (simp (decide := true) only [ax, tabs, s0, Int.reduceToNat]; done)))
    | (refine AW.condF ?_ ?_; (focus (simp (decide := true) only [ax, tabs, s0, Int.reduceToNat]; done))))
  first
    | refine leftJ (.inr rfl) hcl (Nat.le_refl _) (by simp (decide := true) only [ax, tabs, s0, Int.reduceToNat]; rfl) ?_ rfl ⟨rfl, rfl⟩
    | refine leftS (.inr rfl) hcl (Nat.le_refl _) (by simp (decide := true) only [ax, tabs, s0, Int.reduceToNat]; rfl) ?_ rfl ⟨rfl, rfl⟩
  simp (decide := true) only [ax, tabs, s0, Int.reduceToNat, decide_eq_true h']
theorem eqClueS_ok (a b : List Clu) (M : List AO) (ha : a.length ≤ 1000000000) : AC E 71 [.fz 3 (a.map cv), .fz 3 (b.map cv)] M (fun r M' => r = .bool (decide (a = b)) ∧ M' = M) := by
  refine AC.body (fn := Tryz.f71) Tryz.func71 rfl rfl (by simp [Tryz.f71]) fun hcl => ?_
  simp only [Tryz.f71]
  try (simp (decide := true) only [ax, tabs, s0, Int.reduceToNat, List.length_map])
  repeat (first
    | refine AW.seq ?_
    | refine AW.blockS ?_
    | ((first | refine AW.skip ?_ | refine AW.exit ?_ | refine AW.opsN rfl ?_ | refine AW.ret ?_); try (simp (decide := true) only [ax, tabs, s0, Int.reduceToNat, List.length_map]))
    | (refine AW.condT ?_ ?_; (focus (simp (decide := true) only [ax, tabs, s0, Int.reduceToNat, List.length_map]; done)))
    | (refine AW.condF ?_ ?_; (focus (simp (decide := true) only [ax, tabs, s0, Int.reduceToNat, List.length_map]; done))))
  repeat refine AW.seq ?_
  refine AW.cond (decide ((a.length : Int) ≠ (b.length : Int))) (by simp (decide := true) only [ax, tabs, s0, Int.reduceToNat]) (fun h => ?_) (fun h => ?_)
  · have h' : a ≠ b := by rintro rfl; simp at h
    try (simp (decide := true) only [ax, tabs, s0, Int.reduceToNat])
    repeat (first
      | refine AW.seq ?_
      | refine AW.blockS ?_
      | ((first | refine AW.skip ?_ | refine AW.exit ?_ | refine AW.opsN rfl ?_ | refine AW.ret ?_); try (simp (decide := true) only [ax, tabs, s0, Int.reduceToNat]))
      | (refine AW.condT ?_ ?_; (focus (simp (decide := true) only [ax, tabs, s0, Int.reduceToNat]; done)))
      | (refine AW.condF ?_ ?_; (focus (simp (decide := true) only [ax, tabs, s0, Int.reduceToNat]; done))))
    first
      | refine leftJ (.inr rfl) hcl (Nat.le_refl _) (by simp (decide := true) only [ax, tabs, s0, Int.reduceToNat]; rfl) ?_ rfl ⟨rfl, rfl⟩
      | refine leftS (.inr rfl) hcl (Nat.le_refl _) (by simp (decide := true) only [ax, tabs, s0, Int.reduceToNat]; rfl) ?_ rfl ⟨rfl, rfl⟩
    simp (decide := true) only [ax, tabs, s0, Int.reduceToNat, decide_eq_false h']
  have hlen : a.length = b.length := Int.ofNat_inj.1 (by simpa using h)
  try (simp (decide := true) only [ax, tabs, s0, Int.reduceToNat])
  repeat (first
    | refine AW.seq ?_
    | refine AW.blockS ?_
    | ((first | refine AW.skip ?_ | refine AW.exit ?_ | refine AW.opsN rfl ?_ | refine AW.ret ?_); try (simp (decide := true) only [ax, tabs, s0, Int.reduceToNat]))
    | (refine AW.condT ?_ ?_; (focus (simp (decide := true) only [ax, tabs, s0, Int.reduceToNat]; done)))
    | (refine AW.condF ?_ ?_; (focus (simp (decide := true) only [ax, tabs, s0, Int.reduceToNat]; done))))
  refine AW.gen fun T0_ hT0_ => ?_
  have z0_0 := congrFun hT0_ 0
  have z0_1 := congrFun hT0_ 1
  have z0_5 := congrFun hT0_ 5
  try (simp (decide := true) only [ax, tabs, s0, Int.reduceToNat, List.length_map] at z0_0 z0_1 z0_5)
  clear hT0_
  refine AW.blockP (fun T M' => AgT [0, 1] T T0_ ∧ a.take (a.length) = b.take (a.length) ∧ M' = M) (AW.loop (fun d T M' => ∃ i : Nat, i + d = a.length ∧ AgT [0, 1] T T0_ ∧ T 5 = iv i ∧ a.take i = b.take i ∧ M' = M) (a.length) ⟨0, by omega, AgT_refl _ _, (by first | (simp (decide := true) only [ax, tabs, s0, Int.reduceToNat, z0_0, z0_1, z0_5, List.length_map]; done) | (simp (decide := true) only [ax, tabs, s0, Int.reduceToNat, z0_0, z0_1, z0_5, List.length_map]; rfl) | rfl | (intros; omega) | (simp (decide := true) only [ax, tabs, s0, Int.reduceToNat, z0_0, z0_1, z0_5, List.length_map]; exact Tell.nil _) | (simp (decide := true) only [ax, tabs, s0, Int.reduceToNat, z0_0, z0_1, z0_5, List.length_map]; exact Or.inl ⟨rfl, rfl⟩)), (by first | (simp (decide := true) only [ax, tabs, s0, Int.reduceToNat, z0_0, z0_1, z0_5, List.length_map]; done) | (simp (decide := true) only [ax, tabs, s0, Int.reduceToNat, z0_0, z0_1, z0_5, List.length_map]; rfl) | rfl | (intros; omega) | (simp (decide := true) only [ax, tabs, s0, Int.reduceToNat, z0_0, z0_1, z0_5, List.length_map]; exact Tell.nil _) | (simp (decide := true) only [ax, tabs, s0, Int.reduceToNat, z0_0, z0_1, z0_5, List.length_map]; exact Or.inl ⟨rfl, rfl⟩)), (by first | trivial | rfl | assumption | exact List.prefix_rfl | (simp; done) | (simp (decide := true) only [ax, tabs, s0, Int.reduceToNat, z0_0, z0_1, z0_5, List.length_map]; done))⟩ ?_) ?_
  · rintro d T M' ⟨i, hd, fr, hI, h1, rfl⟩
    have y0_0 := (fr 0 (by decide)).trans z0_0
    have y0_1 := (fr 1 (by decide)).trans z0_1
    try (simp (decide := true) only [ax, tabs, s0, Int.reduceToNat, y0_0, y0_1, h1, hI, List.length_map])
    repeat (first
      | refine AW.seq ?_
      | refine AW.blockS ?_
      | ((first | refine AW.skip ?_ | refine AW.exit ?_ | refine AW.opsN rfl ?_ | refine AW.ret ?_); try (simp (decide := true) only [ax, tabs, s0, Int.reduceToNat, y0_0, y0_1, h1, hI, List.length_map]))
      | (refine AW.condT ?_ ?_; (focus (simp (decide := true) only [ax, tabs, s0, Int.reduceToNat, y0_0, y0_1, h1, hI, List.length_map]; done)))
      | (refine AW.condF ?_ ?_; (focus (simp (decide := true) only [ax, tabs, s0, Int.reduceToNat, y0_0, y0_1, h1, hI, List.length_map]; done))))
    repeat refine AW.seq ?_
    refine AW.cond (decide ((i : Int) < ((a.length : Nat) : Int))) (by simp (decide := true) only [ax, tabs, s0, Int.reduceToNat, y0_0, y0_1, h1, hI, List.length_map]) (fun h => ?_) (fun h => ?_)
    · have hi : i < a.length := by have := of_decide_eq_true h; omega
      try (simp (decide := true) only [ax, tabs, s0, Int.reduceToNat])
      repeat (first
        | refine AW.seq ?_
        | refine AW.blockS ?_
        | ((first | refine AW.skip ?_ | refine AW.exit ?_ | refine AW.opsN rfl ?_ | refine AW.ret ?_); try (simp (decide := true) only [ax, tabs, s0, Int.reduceToNat]))
        | (refine AW.condT ?_ ?_; (focus (simp (decide := true) only [ax, tabs, s0, Int.reduceToNat]; done)))
        | (refine AW.condF ?_ ?_; (focus (simp (decide := true) only [ax, tabs, s0, Int.reduceToNat]; done))))
      have g1 := cv_get hi
      have hi2 : i < b.length := by omega
      have g2 := cv_get hi2
      repeat refine AW.seq ?_
      refine AW.draw Emix [2, 2, 0, 0, 2, 2, 0, 0] [0, 0, 3, 7, 0, 0, 48, 112, 255, 511] (by kernel_rfl) ?_
      simp (decide := true) only [ax, axd, tabs, s0, Int.reduceToNat, y0_0, y0_1, hI, List.length_map, hi, hi2, g1, g2, cv]
      refine AC.det (eqClue_ok a[i] b[i] _) ?_
      by_cases h2 : a[i] = b[i]
      · rw [decide_eq_true h2]
        have w := wrap_succ (i := i) (by omega)
        try (simp (decide := true) only [ax, tabs, s0, Int.reduceToNat, hI, w])
        repeat (first
          | refine AW.seq ?_
          | refine AW.blockS ?_
          | ((first | refine AW.skip ?_ | refine AW.exit ?_ | refine AW.opsN rfl ?_ | refine AW.ret ?_); try (simp (decide := true) only [ax, tabs, s0, Int.reduceToNat, hI, w]))
          | (refine AW.condT ?_ ?_; (focus (simp (decide := true) only [ax, tabs, s0, Int.reduceToNat, hI, w]; done)))
          | (refine AW.condF ?_ ?_; (focus (simp (decide := true) only [ax, tabs, s0, Int.reduceToNat, hI, w]; done))))
        refine ⟨d - 1, by omega, i + 1, by omega, ?_⟩
        simp (decide := true) only [ax, tabs, s0, Int.reduceToNat, AgT_cons, AgT_nil, and_true, true_and, y0_0, z0_0, y0_1, z0_1, h1, w]
        rw [List.take_succ_eq_append_getElem hi, List.take_succ_eq_append_getElem hi2, h1, h2]
      · have h' : a ≠ b := by rintro rfl; exact h2 rfl
        rw [decide_eq_false h2]
        try (simp (decide := true) only [ax, tabs, s0, Int.reduceToNat])
        repeat (first
          | refine AW.seq ?_
          | refine AW.blockS ?_
          | ((first | refine AW.skip ?_ | refine AW.exit ?_ | refine AW.opsN rfl ?_ | refine AW.ret ?_); try (simp (decide := true) only [ax, tabs, s0, Int.reduceToNat]))
          | (refine AW.condT ?_ ?_; (focus (simp (decide := true) only [ax, tabs, s0, Int.reduceToNat]; done)))
          | (refine AW.condF ?_ ?_; (focus (simp (decide := true) only [ax, tabs, s0, Int.reduceToNat]; done))))
        first
          | refine leftJ (.inr rfl) hcl (Nat.le_refl _) (by simp (decide := true) only [ax, tabs, s0, Int.reduceToNat]; rfl) ?_ rfl ⟨rfl, rfl⟩
          | refine leftS (.inr rfl) hcl (Nat.le_refl _) (by simp (decide := true) only [ax, tabs, s0, Int.reduceToNat]; rfl) ?_ rfl ⟨rfl, rfl⟩
        simp (decide := true) only [ax, tabs, s0, Int.reduceToNat, decide_eq_false h']
    · have hi : i = a.length := by have := of_decide_eq_false h; omega
      subst hi
      try (simp (decide := true) only [ax, tabs, s0, Int.reduceToNat, y0_0, y0_1, hI, List.length_map])
      repeat (first
        | refine AW.seq ?_
        | refine AW.blockS ?_
        | ((first | refine AW.skip ?_ | refine AW.exit ?_ | refine AW.opsN rfl ?_ | refine AW.ret ?_); try (simp (decide := true) only [ax, tabs, s0, Int.reduceToNat, y0_0, y0_1, hI, List.length_map]))
        | (refine AW.condT ?_ ?_; (focus (simp (decide := true) only [ax, tabs, s0, Int.reduceToNat, y0_0, y0_1, hI, List.length_map]; done)))
        | (refine AW.condF ?_ ?_; (focus (simp (decide := true) only [ax, tabs, s0, Int.reduceToNat, y0_0, y0_1, hI, List.length_map]; done))))
      try (simp (decide := true) only [ax, tabs, s0, Int.reduceToNat, AgT_cons, AgT_nil, and_true, true_and, y0_0, z0_0, y0_1, z0_1, h1])
      repeat' (first | assumption | rfl | exact List.prefix_append _ _ | apply And.intro)
  · rintro T M' ⟨fr, h1, rfl⟩
    have y0_0 := (fr 0 (by decide)).trans z0_0
    have y0_1 := (fr 1 (by decide)).trans z0_1
    have h' : a = b := by rw [List.take_length, hlen, List.take_length] at h1; exact h1
    try (simp (decide := true) only [ax, tabs, s0, Int.reduceToNat])
    repeat (first
      | refine AW.seq ?_
      | refine AW.blockS ?_
      | ((first | refine AW.skip ?_ | refine AW.exit ?_ | refine AW.opsN rfl ?_ | refine AW.ret ?_); try (simp (decide := true) only [ax, tabs, s0, Int.reduceToNat]))
      | (refine AW.condT ?_ ?_; (focus (simp (decide := true) only [ax, tabs, s0, Int.reduceToNat]; done)))
      | (refine AW.condF ?_ ?_; (focus (simp (decide := true) only [ax, tabs, s0, Int.reduceToNat]; done))))
    first
      | refine leftJ (.inr rfl) hcl (Nat.le_refl _) (by simp (decide := true) only [ax, tabs, s0, Int.reduceToNat]; rfl) ?_ rfl ⟨rfl, rfl⟩
      | refine leftS (.inr rfl) hcl (Nat.le_refl _) (by simp (decide := true) only [ax, tabs, s0, Int.reduceToNat]; rfl) ?_ rfl ⟨rfl, rfl⟩
    simp (decide := true) only [ax, tabs, s0, Int.reduceToNat, decide_eq_true h']
end Go.Ax
