/- The reference's clues and orders. -/
import Derived.Test.YtnbfoiidlbfbeaaGreatP9
set_option linter.unusedVariables false
set_option linter.unusedSimpArgs false
namespace Go.Ax
open Go.Proofs

theorem pzClue_ok (p : Int) (c : Clu) (M : List AO) (hp : 1 ≤ p ∧ p ≤ 4) : AC E 88 [iv p, cv c] M (fun r M' => r = .bool (isClueF p c) ∧ M' = M) := by
  refine AC.body (fn := Tryz.f88) Tryz.func88 rfl rfl (by simp [Tryz.f88]) fun hcl => ?_
  simp only [Tryz.f88]
  have hp2 : inB p 1 4 = true := by simp [inB, hp.1, hp.2]
  have hw : IntKind.i64.wrap (p - 1) = p - 1 := wrap_in (by omega) (by omega)
  have hun : isClueF p c = (if c.1 = 0 then inB c.2.1 0 (p - 1) && inB c.2.2 1 6 else if c.1 = 1 then inB c.2.1 1 24 && decide (c.2.2 = 0) else if c.1 = 2 ∨ c.1 = 3 then inB c.2.1 1 100 && decide (c.2.2 = 0)
    else if c.1 = 4 then inB c.2.1 0 (p - 1) && inB c.2.2 0 5 else if c.1 = 5 then inB c.2.1 0 p && decide (c.2.2 = 0) else false) := by unfold isClueF; rw [if_pos hp2]
  clear hp2
  try (simp (decide := true) only [ax, tabs, s0, Int.reduceToNat, cv])
  repeat (first
    | refine AW.seq ?_
    | refine AW.blockS ?_
    | ((first | refine AW.skip ?_ | refine AW.exit ?_ | refine AW.opsN rfl ?_ | refine AW.ret ?_); try (simp (decide := true) only [ax, tabs, s0, Int.reduceToNat, cv]))
    | (refine AW.condT ?_ ?_; (focus (simp (decide := true) only [ax, tabs, s0, Int.reduceToNat, cv]; done)))
    | (refine AW.condF ?_ ?_; (focus (simp (decide := true) only [ax, tabs, s0, Int.reduceToNat, cv]; done))))
  repeat refine AW.seq ?_
  refine AW.cond (decide (c.1 = 0)) (by simp (decide := true) only [ax, tabs, s0, Int.reduceToNat]) (fun h => ?_) (fun h => ?_)
  · have k0 : c.1 = 0 := of_decide_eq_true h
    try (simp (decide := true) only [ax, tabs, s0, Int.reduceToNat, hw])
    repeat (first
      | refine AW.seq ?_
      | refine AW.blockS ?_
      | ((first | refine AW.skip ?_ | refine AW.exit ?_ | refine AW.opsN rfl ?_ | refine AW.ret ?_); try (simp (decide := true) only [ax, tabs, s0, Int.reduceToNat, hw]))
      | (refine AW.condT ?_ ?_; (focus (simp (decide := true) only [ax, tabs, s0, Int.reduceToNat, hw]; done)))
      | (refine AW.condF ?_ ?_; (focus (simp (decide := true) only [ax, tabs, s0, Int.reduceToNat, hw]; done))))
    refine AC.det (l1In_ok c.2.1 0 _ _) ?_
    try (simp (decide := true) only [ax, tabs, s0, Int.reduceToNat])
    try (simp (decide := true) only [ax, tabs, s0, Int.reduceToNat])
    repeat (first
      | refine AW.seq ?_
      | refine AW.blockS ?_
      | ((first | refine AW.skip ?_ | refine AW.exit ?_ | refine AW.opsN rfl ?_ | refine AW.ret ?_); try (simp (decide := true) only [ax, tabs, s0, Int.reduceToNat]))
      | (refine AW.condT ?_ ?_; (focus (simp (decide := true) only [ax, tabs, s0, Int.reduceToNat]; done)))
      | (refine AW.condF ?_ ?_; (focus (simp (decide := true) only [ax, tabs, s0, Int.reduceToNat]; done))))
    cases hb : (decide (0 ≤ c.2.1) && decide (c.2.1 ≤ p - 1))
    · try (simp (decide := true) only [ax, tabs, s0, Int.reduceToNat])
      repeat (first
        | refine AW.seq ?_
        | refine AW.blockS ?_
        | ((first | refine AW.skip ?_ | refine AW.exit ?_ | refine AW.opsN rfl ?_ | refine AW.ret ?_); try (simp (decide := true) only [ax, tabs, s0, Int.reduceToNat]))
        | (refine AW.condT ?_ ?_; (focus (simp (decide := true) only [ax, tabs, s0, Int.reduceToNat]; done)))
        | (refine AW.condF ?_ ?_; (focus (simp (decide := true) only [ax, tabs, s0, Int.reduceToNat]; done))))
      first
        | refine leftJ (.inr rfl) hcl (Nat.le_refl _) (by simp (decide := true) only [ax, tabs, s0, Int.reduceToNat]; rfl) ?_ rfl ⟨rfl, rfl⟩
        | refine leftS (.inr rfl) hcl (Nat.le_refl _) (by simp (decide := true) only [ax, tabs, s0, Int.reduceToNat]; rfl) ?_ rfl ⟨rfl, rfl⟩
      simp (decide := true) only [ax, tabs, s0, Int.reduceToNat]
      simp_all [inB]
    · try (simp (decide := true) only [ax, tabs, s0, Int.reduceToNat])
      repeat (first
        | refine AW.seq ?_
        | refine AW.blockS ?_
        | ((first | refine AW.skip ?_ | refine AW.exit ?_ | refine AW.opsN rfl ?_ | refine AW.ret ?_); try (simp (decide := true) only [ax, tabs, s0, Int.reduceToNat]))
        | (refine AW.condT ?_ ?_; (focus (simp (decide := true) only [ax, tabs, s0, Int.reduceToNat]; done)))
        | (refine AW.condF ?_ ?_; (focus (simp (decide := true) only [ax, tabs, s0, Int.reduceToNat]; done))))
      refine AC.det (l1In_ok c.2.2 1 6 _) ?_
      try (simp (decide := true) only [ax, tabs, s0, Int.reduceToNat])
      try (simp (decide := true) only [ax, tabs, s0, Int.reduceToNat])
      repeat (first
        | refine AW.seq ?_
        | refine AW.blockS ?_
        | ((first | refine AW.skip ?_ | refine AW.exit ?_ | refine AW.opsN rfl ?_ | refine AW.ret ?_); try (simp (decide := true) only [ax, tabs, s0, Int.reduceToNat]))
        | (refine AW.condT ?_ ?_; (focus (simp (decide := true) only [ax, tabs, s0, Int.reduceToNat]; done)))
        | (refine AW.condF ?_ ?_; (focus (simp (decide := true) only [ax, tabs, s0, Int.reduceToNat]; done))))
      first
        | refine leftJ (.inr rfl) hcl (Nat.le_refl _) (by simp (decide := true) only [ax, tabs, s0, Int.reduceToNat]; rfl) ?_ rfl ⟨rfl, rfl⟩
        | refine leftS (.inr rfl) hcl (Nat.le_refl _) (by simp (decide := true) only [ax, tabs, s0, Int.reduceToNat]; rfl) ?_ rfl ⟨rfl, rfl⟩
      simp (decide := true) only [ax, tabs, s0, Int.reduceToNat]
      simp_all [inB]
  have k0 : ¬ c.1 = 0 := of_decide_eq_false h
  try (simp (decide := true) only [ax, tabs, s0, Int.reduceToNat])
  repeat (first
    | refine AW.seq ?_
    | refine AW.blockS ?_
    | ((first | refine AW.skip ?_ | refine AW.exit ?_ | refine AW.opsN rfl ?_ | refine AW.ret ?_); try (simp (decide := true) only [ax, tabs, s0, Int.reduceToNat]))
    | (refine AW.condT ?_ ?_; (focus (simp (decide := true) only [ax, tabs, s0, Int.reduceToNat]; done)))
    | (refine AW.condF ?_ ?_; (focus (simp (decide := true) only [ax, tabs, s0, Int.reduceToNat]; done))))
  repeat refine AW.seq ?_
  refine AW.cond (decide (c.1 = 4)) (by simp (decide := true) only [ax, tabs, s0, Int.reduceToNat]) (fun h => ?_) (fun h => ?_)
  · have k4 : c.1 = 4 := of_decide_eq_true h
    try (simp (decide := true) only [ax, tabs, s0, Int.reduceToNat, hw])
    repeat (first
      | refine AW.seq ?_
      | refine AW.blockS ?_
      | ((first | refine AW.skip ?_ | refine AW.exit ?_ | refine AW.opsN rfl ?_ | refine AW.ret ?_); try (simp (decide := true) only [ax, tabs, s0, Int.reduceToNat, hw]))
      | (refine AW.condT ?_ ?_; (focus (simp (decide := true) only [ax, tabs, s0, Int.reduceToNat, hw]; done)))
      | (refine AW.condF ?_ ?_; (focus (simp (decide := true) only [ax, tabs, s0, Int.reduceToNat, hw]; done))))
    refine AC.det (l1In_ok c.2.1 0 _ _) ?_
    try (simp (decide := true) only [ax, tabs, s0, Int.reduceToNat])
    try (simp (decide := true) only [ax, tabs, s0, Int.reduceToNat])
    repeat (first
      | refine AW.seq ?_
      | refine AW.blockS ?_
      | ((first | refine AW.skip ?_ | refine AW.exit ?_ | refine AW.opsN rfl ?_ | refine AW.ret ?_); try (simp (decide := true) only [ax, tabs, s0, Int.reduceToNat]))
      | (refine AW.condT ?_ ?_; (focus (simp (decide := true) only [ax, tabs, s0, Int.reduceToNat]; done)))
      | (refine AW.condF ?_ ?_; (focus (simp (decide := true) only [ax, tabs, s0, Int.reduceToNat]; done))))
    cases hb : (decide (0 ≤ c.2.1) && decide (c.2.1 ≤ p - 1))
    · try (simp (decide := true) only [ax, tabs, s0, Int.reduceToNat])
      repeat (first
        | refine AW.seq ?_
        | refine AW.blockS ?_
        | ((first | refine AW.skip ?_ | refine AW.exit ?_ | refine AW.opsN rfl ?_ | refine AW.ret ?_); try (simp (decide := true) only [ax, tabs, s0, Int.reduceToNat]))
        | (refine AW.condT ?_ ?_; (focus (simp (decide := true) only [ax, tabs, s0, Int.reduceToNat]; done)))
        | (refine AW.condF ?_ ?_; (focus (simp (decide := true) only [ax, tabs, s0, Int.reduceToNat]; done))))
      first
        | refine leftJ (.inr rfl) hcl (Nat.le_refl _) (by simp (decide := true) only [ax, tabs, s0, Int.reduceToNat]; rfl) ?_ rfl ⟨rfl, rfl⟩
        | refine leftS (.inr rfl) hcl (Nat.le_refl _) (by simp (decide := true) only [ax, tabs, s0, Int.reduceToNat]; rfl) ?_ rfl ⟨rfl, rfl⟩
      simp (decide := true) only [ax, tabs, s0, Int.reduceToNat]
      simp_all [inB]
    · try (simp (decide := true) only [ax, tabs, s0, Int.reduceToNat])
      repeat (first
        | refine AW.seq ?_
        | refine AW.blockS ?_
        | ((first | refine AW.skip ?_ | refine AW.exit ?_ | refine AW.opsN rfl ?_ | refine AW.ret ?_); try (simp (decide := true) only [ax, tabs, s0, Int.reduceToNat]))
        | (refine AW.condT ?_ ?_; (focus (simp (decide := true) only [ax, tabs, s0, Int.reduceToNat]; done)))
        | (refine AW.condF ?_ ?_; (focus (simp (decide := true) only [ax, tabs, s0, Int.reduceToNat]; done))))
      refine AC.det (l1In_ok c.2.2 0 5 _) ?_
      try (simp (decide := true) only [ax, tabs, s0, Int.reduceToNat])
      try (simp (decide := true) only [ax, tabs, s0, Int.reduceToNat])
      repeat (first
        | refine AW.seq ?_
        | refine AW.blockS ?_
        | ((first | refine AW.skip ?_ | refine AW.exit ?_ | refine AW.opsN rfl ?_ | refine AW.ret ?_); try (simp (decide := true) only [ax, tabs, s0, Int.reduceToNat]))
        | (refine AW.condT ?_ ?_; (focus (simp (decide := true) only [ax, tabs, s0, Int.reduceToNat]; done)))
        | (refine AW.condF ?_ ?_; (focus (simp (decide := true) only [ax, tabs, s0, Int.reduceToNat]; done))))
      first
        | refine leftJ (.inr rfl) hcl (Nat.le_refl _) (by simp (decide := true) only [ax, tabs, s0, Int.reduceToNat]; rfl) ?_ rfl ⟨rfl, rfl⟩
        | refine leftS (.inr rfl) hcl (Nat.le_refl _) (by simp (decide := true) only [ax, tabs, s0, Int.reduceToNat]; rfl) ?_ rfl ⟨rfl, rfl⟩
      simp (decide := true) only [ax, tabs, s0, Int.reduceToNat]
      simp_all [inB]
  have k4 : ¬ c.1 = 4 := of_decide_eq_false h
  try (simp (decide := true) only [ax, tabs, s0, Int.reduceToNat])
  repeat (first
    | refine AW.seq ?_
    | refine AW.blockS ?_
    | ((first | refine AW.skip ?_ | refine AW.exit ?_ | refine AW.opsN rfl ?_ | refine AW.ret ?_); try (simp (decide := true) only [ax, tabs, s0, Int.reduceToNat]))
    | (refine AW.condT ?_ ?_; (focus (simp (decide := true) only [ax, tabs, s0, Int.reduceToNat]; done)))
    | (refine AW.condF ?_ ?_; (focus (simp (decide := true) only [ax, tabs, s0, Int.reduceToNat]; done))))
  repeat refine AW.seq ?_
  refine AW.cond (decide (c.2.2 ≠ 0)) (by simp (decide := true) only [ax, tabs, s0, Int.reduceToNat]) (fun h => ?_) (fun h => ?_)
  · have b0 : c.2.2 ≠ 0 := of_decide_eq_true h
    try (simp (decide := true) only [ax, tabs, s0, Int.reduceToNat])
    repeat (first
      | refine AW.seq ?_
      | refine AW.blockS ?_
      | ((first | refine AW.skip ?_ | refine AW.exit ?_ | refine AW.opsN rfl ?_ | refine AW.ret ?_); try (simp (decide := true) only [ax, tabs, s0, Int.reduceToNat]))
      | (refine AW.condT ?_ ?_; (focus (simp (decide := true) only [ax, tabs, s0, Int.reduceToNat]; done)))
      | (refine AW.condF ?_ ?_; (focus (simp (decide := true) only [ax, tabs, s0, Int.reduceToNat]; done))))
    first
      | refine leftJ (.inr rfl) hcl (Nat.le_refl _) (by simp (decide := true) only [ax, tabs, s0, Int.reduceToNat]; rfl) ?_ rfl ⟨rfl, rfl⟩
      | refine leftS (.inr rfl) hcl (Nat.le_refl _) (by simp (decide := true) only [ax, tabs, s0, Int.reduceToNat]; rfl) ?_ rfl ⟨rfl, rfl⟩
    simp (decide := true) only [ax, tabs, s0, Int.reduceToNat]
    simp only [hun, if_neg k0, if_neg k4, decide_eq_false b0, Bool.and_false, ite_self]
  have b0 : c.2.2 = 0 := by simpa using h
  try (simp (decide := true) only [ax, tabs, s0, Int.reduceToNat])
  repeat (first
    | refine AW.seq ?_
    | refine AW.blockS ?_
    | ((first | refine AW.skip ?_ | refine AW.exit ?_ | refine AW.opsN rfl ?_ | refine AW.ret ?_); try (simp (decide := true) only [ax, tabs, s0, Int.reduceToNat]))
    | (refine AW.condT ?_ ?_; (focus (simp (decide := true) only [ax, tabs, s0, Int.reduceToNat]; done)))
    | (refine AW.condF ?_ ?_; (focus (simp (decide := true) only [ax, tabs, s0, Int.reduceToNat]; done))))
  repeat refine AW.seq ?_
  refine AW.cond (decide (c.1 = 1)) (by simp (decide := true) only [ax, tabs, s0, Int.reduceToNat]) (fun h => ?_) (fun h => ?_)
  · have k1 : c.1 = 1 := of_decide_eq_true h
    try (simp (decide := true) only [ax, tabs, s0, Int.reduceToNat])
    repeat (first
      | refine AW.seq ?_
      | refine AW.blockS ?_
      | ((first | refine AW.skip ?_ | refine AW.exit ?_ | refine AW.opsN rfl ?_ | refine AW.ret ?_); try (simp (decide := true) only [ax, tabs, s0, Int.reduceToNat]))
      | (refine AW.condT ?_ ?_; (focus (simp (decide := true) only [ax, tabs, s0, Int.reduceToNat]; done)))
      | (refine AW.condF ?_ ?_; (focus (simp (decide := true) only [ax, tabs, s0, Int.reduceToNat]; done))))
    refine AC.det (l1In_ok c.2.1 1 24 _) ?_
    try (simp (decide := true) only [ax, tabs, s0, Int.reduceToNat])
    try (simp (decide := true) only [ax, tabs, s0, Int.reduceToNat])
    repeat (first
      | refine AW.seq ?_
      | refine AW.blockS ?_
      | ((first | refine AW.skip ?_ | refine AW.exit ?_ | refine AW.opsN rfl ?_ | refine AW.ret ?_); try (simp (decide := true) only [ax, tabs, s0, Int.reduceToNat]))
      | (refine AW.condT ?_ ?_; (focus (simp (decide := true) only [ax, tabs, s0, Int.reduceToNat]; done)))
      | (refine AW.condF ?_ ?_; (focus (simp (decide := true) only [ax, tabs, s0, Int.reduceToNat]; done))))
    first
      | refine leftJ (.inr rfl) hcl (Nat.le_refl _) (by simp (decide := true) only [ax, tabs, s0, Int.reduceToNat]; rfl) ?_ rfl ⟨rfl, rfl⟩
      | refine leftS (.inr rfl) hcl (Nat.le_refl _) (by simp (decide := true) only [ax, tabs, s0, Int.reduceToNat]; rfl) ?_ rfl ⟨rfl, rfl⟩
    simp (decide := true) only [ax, tabs, s0, Int.reduceToNat]
    simp [hun, k1, b0, inB]
  have k1 : ¬ c.1 = 1 := of_decide_eq_false h
  try (simp (decide := true) only [ax, tabs, s0, Int.reduceToNat])
  repeat (first
    | refine AW.seq ?_
    | refine AW.blockS ?_
    | ((first | refine AW.skip ?_ | refine AW.exit ?_ | refine AW.opsN rfl ?_ | refine AW.ret ?_); try (simp (decide := true) only [ax, tabs, s0, Int.reduceToNat]))
    | (refine AW.condT ?_ ?_; (focus (simp (decide := true) only [ax, tabs, s0, Int.reduceToNat]; done)))
    | (refine AW.condF ?_ ?_; (focus (simp (decide := true) only [ax, tabs, s0, Int.reduceToNat]; done))))
  repeat refine AW.seq ?_
  refine AW.cond (decide (c.1 = 2)) (by simp (decide := true) only [ax, tabs, s0, Int.reduceToNat]) (fun h => ?_) (fun h => ?_)
  · have k2 : c.1 = 2 := of_decide_eq_true h
    try (simp (decide := true) only [ax, tabs, s0, Int.reduceToNat, k2])
    repeat (first
      | refine AW.seq ?_
      | refine AW.blockS ?_
      | ((first | refine AW.skip ?_ | refine AW.exit ?_ | refine AW.opsN rfl ?_ | refine AW.ret ?_); try (simp (decide := true) only [ax, tabs, s0, Int.reduceToNat, k2]))
      | (refine AW.condT ?_ ?_; (focus (simp (decide := true) only [ax, tabs, s0, Int.reduceToNat, k2]; done)))
      | (refine AW.condF ?_ ?_; (focus (simp (decide := true) only [ax, tabs, s0, Int.reduceToNat, k2]; done))))
    refine AC.det (l1In_ok c.2.1 1 100 _) ?_
    try (simp (decide := true) only [ax, tabs, s0, Int.reduceToNat])
    try (simp (decide := true) only [ax, tabs, s0, Int.reduceToNat])
    repeat (first
      | refine AW.seq ?_
      | refine AW.blockS ?_
      | ((first | refine AW.skip ?_ | refine AW.exit ?_ | refine AW.opsN rfl ?_ | refine AW.ret ?_); try (simp (decide := true) only [ax, tabs, s0, Int.reduceToNat]))
      | (refine AW.condT ?_ ?_; (focus (simp (decide := true) only [ax, tabs, s0, Int.reduceToNat]; done)))
      | (refine AW.condF ?_ ?_; (focus (simp (decide := true) only [ax, tabs, s0, Int.reduceToNat]; done))))
    first
      | refine leftJ (.inr rfl) hcl (Nat.le_refl _) (by simp (decide := true) only [ax, tabs, s0, Int.reduceToNat]; rfl) ?_ rfl ⟨rfl, rfl⟩
      | refine leftS (.inr rfl) hcl (Nat.le_refl _) (by simp (decide := true) only [ax, tabs, s0, Int.reduceToNat]; rfl) ?_ rfl ⟨rfl, rfl⟩
    simp (decide := true) only [ax, tabs, s0, Int.reduceToNat]
    simp [hun, k2, b0, inB]
  have k2 : ¬ c.1 = 2 := of_decide_eq_false h
  try (simp (decide := true) only [ax, tabs, s0, Int.reduceToNat])
  repeat (first
    | refine AW.seq ?_
    | refine AW.blockS ?_
    | ((first | refine AW.skip ?_ | refine AW.exit ?_ | refine AW.opsN rfl ?_ | refine AW.ret ?_); try (simp (decide := true) only [ax, tabs, s0, Int.reduceToNat]))
    | (refine AW.condT ?_ ?_; (focus (simp (decide := true) only [ax, tabs, s0, Int.reduceToNat]; done)))
    | (refine AW.condF ?_ ?_; (focus (simp (decide := true) only [ax, tabs, s0, Int.reduceToNat]; done))))
  repeat refine AW.seq ?_
  refine AW.cond (decide (c.1 = 3)) (by simp (decide := true) only [ax, tabs, s0, Int.reduceToNat]) (fun h => ?_) (fun h => ?_)
  · have k3 : c.1 = 3 := of_decide_eq_true h
    try (simp (decide := true) only [ax, tabs, s0, Int.reduceToNat])
    repeat (first
      | refine AW.seq ?_
      | refine AW.blockS ?_
      | ((first | refine AW.skip ?_ | refine AW.exit ?_ | refine AW.opsN rfl ?_ | refine AW.ret ?_); try (simp (decide := true) only [ax, tabs, s0, Int.reduceToNat]))
      | (refine AW.condT ?_ ?_; (focus (simp (decide := true) only [ax, tabs, s0, Int.reduceToNat]; done)))
      | (refine AW.condF ?_ ?_; (focus (simp (decide := true) only [ax, tabs, s0, Int.reduceToNat]; done))))
    refine AC.det (l1In_ok c.2.1 1 100 _) ?_
    try (simp (decide := true) only [ax, tabs, s0, Int.reduceToNat])
    try (simp (decide := true) only [ax, tabs, s0, Int.reduceToNat])
    repeat (first
      | refine AW.seq ?_
      | refine AW.blockS ?_
      | ((first | refine AW.skip ?_ | refine AW.exit ?_ | refine AW.opsN rfl ?_ | refine AW.ret ?_); try (simp (decide := true) only [ax, tabs, s0, Int.reduceToNat]))
      | (refine AW.condT ?_ ?_; (focus (simp (decide := true) only [ax, tabs, s0, Int.reduceToNat]; done)))
      | (refine AW.condF ?_ ?_; (focus (simp (decide := true) only [ax, tabs, s0, Int.reduceToNat]; done))))
    first
      | refine leftJ (.inr rfl) hcl (Nat.le_refl _) (by simp (decide := true) only [ax, tabs, s0, Int.reduceToNat]; rfl) ?_ rfl ⟨rfl, rfl⟩
      | refine leftS (.inr rfl) hcl (Nat.le_refl _) (by simp (decide := true) only [ax, tabs, s0, Int.reduceToNat]; rfl) ?_ rfl ⟨rfl, rfl⟩
    simp (decide := true) only [ax, tabs, s0, Int.reduceToNat]
    simp [hun, k3, b0, inB]
  have k3 : ¬ c.1 = 3 := of_decide_eq_false h
  try (simp (decide := true) only [ax, tabs, s0, Int.reduceToNat])
  repeat (first
    | refine AW.seq ?_
    | refine AW.blockS ?_
    | ((first | refine AW.skip ?_ | refine AW.exit ?_ | refine AW.opsN rfl ?_ | refine AW.ret ?_); try (simp (decide := true) only [ax, tabs, s0, Int.reduceToNat]))
    | (refine AW.condT ?_ ?_; (focus (simp (decide := true) only [ax, tabs, s0, Int.reduceToNat]; done)))
    | (refine AW.condF ?_ ?_; (focus (simp (decide := true) only [ax, tabs, s0, Int.reduceToNat]; done))))
  repeat refine AW.seq ?_
  refine AW.cond (decide (c.1 = 5)) (by simp (decide := true) only [ax, tabs, s0, Int.reduceToNat]) (fun h => ?_) (fun h => ?_)
  · have k5 : c.1 = 5 := of_decide_eq_true h
    try (simp (decide := true) only [ax, tabs, s0, Int.reduceToNat])
    repeat (first
      | refine AW.seq ?_
      | refine AW.blockS ?_
      | ((first | refine AW.skip ?_ | refine AW.exit ?_ | refine AW.opsN rfl ?_ | refine AW.ret ?_); try (simp (decide := true) only [ax, tabs, s0, Int.reduceToNat]))
      | (refine AW.condT ?_ ?_; (focus (simp (decide := true) only [ax, tabs, s0, Int.reduceToNat]; done)))
      | (refine AW.condF ?_ ?_; (focus (simp (decide := true) only [ax, tabs, s0, Int.reduceToNat]; done))))
    refine AC.det (l1In_ok c.2.1 0 p _) ?_
    try (simp (decide := true) only [ax, tabs, s0, Int.reduceToNat])
    try (simp (decide := true) only [ax, tabs, s0, Int.reduceToNat])
    repeat (first
      | refine AW.seq ?_
      | refine AW.blockS ?_
      | ((first | refine AW.skip ?_ | refine AW.exit ?_ | refine AW.opsN rfl ?_ | refine AW.ret ?_); try (simp (decide := true) only [ax, tabs, s0, Int.reduceToNat]))
      | (refine AW.condT ?_ ?_; (focus (simp (decide := true) only [ax, tabs, s0, Int.reduceToNat]; done)))
      | (refine AW.condF ?_ ?_; (focus (simp (decide := true) only [ax, tabs, s0, Int.reduceToNat]; done))))
    first
      | refine leftJ (.inr rfl) hcl (Nat.le_refl _) (by simp (decide := true) only [ax, tabs, s0, Int.reduceToNat]; rfl) ?_ rfl ⟨rfl, rfl⟩
      | refine leftS (.inr rfl) hcl (Nat.le_refl _) (by simp (decide := true) only [ax, tabs, s0, Int.reduceToNat]; rfl) ?_ rfl ⟨rfl, rfl⟩
    simp (decide := true) only [ax, tabs, s0, Int.reduceToNat]
    simp [hun, k5, b0, inB]
  have k5 : ¬ c.1 = 5 := of_decide_eq_false h
  try (simp (decide := true) only [ax, tabs, s0, Int.reduceToNat])
  repeat (first
    | refine AW.seq ?_
    | refine AW.blockS ?_
    | ((first | refine AW.skip ?_ | refine AW.exit ?_ | refine AW.opsN rfl ?_ | refine AW.ret ?_); try (simp (decide := true) only [ax, tabs, s0, Int.reduceToNat]))
    | (refine AW.condT ?_ ?_; (focus (simp (decide := true) only [ax, tabs, s0, Int.reduceToNat]; done)))
    | (refine AW.condF ?_ ?_; (focus (simp (decide := true) only [ax, tabs, s0, Int.reduceToNat]; done))))
  first
    | refine leftJ (.inr rfl) hcl (Nat.le_refl _) (by simp (decide := true) only [ax, tabs, s0, Int.reduceToNat]; rfl) ?_ rfl ⟨rfl, rfl⟩
    | refine leftS (.inr rfl) hcl (Nat.le_refl _) (by simp (decide := true) only [ax, tabs, s0, Int.reduceToNat]; rfl) ?_ rfl ⟨rfl, rfl⟩
  simp (decide := true) only [ax, tabs, s0, Int.reduceToNat]
  simp [hun, k0, k1, k2, k3, k4, k5]
theorem cv_get {cs : List Clu} {i : Nat} (h : i < cs.length) : (cs.map cv).getD i .any = cv cs[i] := by simp [List.getD_eq_getElem?_getD, List.getElem?_eq_getElem h]
theorem pzGood_ok (p : Int) (cs : List Clu) (M : List AO) (hl : cs.length ≤ 2000000) : AC E 63 [pv p cs] M (fun r M' => r = .bool (isPuzF p cs) ∧ M' = M) := by
  refine AC.body (fn := Tryz.f63) Tryz.func63 rfl rfl (by simp [Tryz.f63]) fun hcl => ?_
  simp only [Tryz.f63]
  try (simp (decide := true) only [ax, tabs, s0, Int.reduceToNat, pv])
  repeat (first
    | refine AW.seq ?_
    | refine AW.blockS ?_
    | ((first | refine AW.skip ?_ | refine AW.exit ?_ | refine AW.opsN rfl ?_ | refine AW.ret ?_); try (simp (decide := true) only [ax, tabs, s0, Int.reduceToNat, pv]))
    | (refine AW.condT ?_ ?_; (focus (simp (decide := true) only [ax, tabs, s0, Int.reduceToNat, pv]; done)))
    | (refine AW.condF ?_ ?_; (focus (simp (decide := true) only [ax, tabs, s0, Int.reduceToNat, pv]; done))))
  refine AC.det (pzPeople_ok p _) ?_
  try (simp (decide := true) only [ax, tabs, s0, Int.reduceToNat])
  try (simp (decide := true) only [ax, tabs, s0, Int.reduceToNat])
  repeat (first
    | refine AW.seq ?_
    | refine AW.blockS ?_
    | ((first | refine AW.skip ?_ | refine AW.exit ?_ | refine AW.opsN rfl ?_ | refine AW.ret ?_); try (simp (decide := true) only [ax, tabs, s0, Int.reduceToNat]))
    | (refine AW.condT ?_ ?_; (focus (simp (decide := true) only [ax, tabs, s0, Int.reduceToNat]; done)))
    | (refine AW.condF ?_ ?_; (focus (simp (decide := true) only [ax, tabs, s0, Int.reduceToNat]; done))))
  cases hp : inB p 1 4 with
  | false =>
    try (simp (decide := true) only [ax, tabs, s0, Int.reduceToNat])
    repeat (first
      | refine AW.seq ?_
      | refine AW.blockS ?_
      | ((first | refine AW.skip ?_ | refine AW.exit ?_ | refine AW.opsN rfl ?_ | refine AW.ret ?_); try (simp (decide := true) only [ax, tabs, s0, Int.reduceToNat]))
      | (refine AW.condT ?_ ?_; (focus (simp (decide := true) only [ax, tabs, s0, Int.reduceToNat]; done)))
      | (refine AW.condF ?_ ?_; (focus (simp (decide := true) only [ax, tabs, s0, Int.reduceToNat]; done))))
    first
      | refine leftJ (.inr rfl) hcl (Nat.le_refl _) (by simp (decide := true) only [ax, tabs, s0, Int.reduceToNat]; rfl) ?_ rfl ⟨rfl, rfl⟩
      | refine leftS (.inr rfl) hcl (Nat.le_refl _) (by simp (decide := true) only [ax, tabs, s0, Int.reduceToNat]; rfl) ?_ rfl ⟨rfl, rfl⟩
    simp (decide := true) only [ax, tabs, s0, Int.reduceToNat]
    simp [isPuzF, hp]
  | true =>
    try (simp (decide := true) only [ax, tabs, s0, Int.reduceToNat, List.length_map])
    repeat (first
      | refine AW.seq ?_
      | refine AW.blockS ?_
      | ((first | refine AW.skip ?_ | refine AW.exit ?_ | refine AW.opsN rfl ?_ | refine AW.ret ?_); try (simp (decide := true) only [ax, tabs, s0, Int.reduceToNat, List.length_map]))
      | (refine AW.condT ?_ ?_; (focus (simp (decide := true) only [ax, tabs, s0, Int.reduceToNat, List.length_map]; done)))
      | (refine AW.condF ?_ ?_; (focus (simp (decide := true) only [ax, tabs, s0, Int.reduceToNat, List.length_map]; done))))
    have h6 : decide ((cs.length : Int) > 6) = !decide (cs.length ≤ 6) := by
      by_cases h : cs.length ≤ 6
      · rw [decide_eq_true h, decide_eq_false (by omega)]; rfl
      · rw [decide_eq_false h, decide_eq_true (by omega)]; rfl
    try (simp (decide := true) only [ax, tabs, s0, Int.reduceToNat, h6])
    cases h7 : decide (cs.length ≤ 6) with
    | false =>
      try (simp (decide := true) only [ax, tabs, s0, Int.reduceToNat, Bool.not_false])
      repeat (first
        | refine AW.seq ?_
        | refine AW.blockS ?_
        | ((first | refine AW.skip ?_ | refine AW.exit ?_ | refine AW.opsN rfl ?_ | refine AW.ret ?_); try (simp (decide := true) only [ax, tabs, s0, Int.reduceToNat, Bool.not_false]))
        | (refine AW.condT ?_ ?_; (focus (simp (decide := true) only [ax, tabs, s0, Int.reduceToNat, Bool.not_false]; done)))
        | (refine AW.condF ?_ ?_; (focus (simp (decide := true) only [ax, tabs, s0, Int.reduceToNat, Bool.not_false]; done))))
      first
        | refine leftJ (.inr rfl) hcl (Nat.le_refl _) (by simp (decide := true) only [ax, tabs, s0, Int.reduceToNat]; rfl) ?_ rfl ⟨rfl, rfl⟩
        | refine leftS (.inr rfl) hcl (Nat.le_refl _) (by simp (decide := true) only [ax, tabs, s0, Int.reduceToNat]; rfl) ?_ rfl ⟨rfl, rfl⟩
      simp (decide := true) only [ax, tabs, s0, Int.reduceToNat]
      simp [isPuzF, hp, h7]
    | true =>
      have hp2 : 1 ≤ p ∧ p ≤ 4 := by simpa using hp
      try (simp (decide := true) only [ax, tabs, s0, Int.reduceToNat, Bool.not_true])
      repeat (first
        | refine AW.seq ?_
        | refine AW.blockS ?_
        | ((first | refine AW.skip ?_ | refine AW.exit ?_ | refine AW.opsN rfl ?_ | refine AW.ret ?_); try (simp (decide := true) only [ax, tabs, s0, Int.reduceToNat, Bool.not_true]))
        | (refine AW.condT ?_ ?_; (focus (simp (decide := true) only [ax, tabs, s0, Int.reduceToNat, Bool.not_true]; done)))
        | (refine AW.condF ?_ ?_; (focus (simp (decide := true) only [ax, tabs, s0, Int.reduceToNat, Bool.not_true]; done))))
      refine AW.gen fun T0_ hT0_ => ?_
      have z0_1 := congrFun hT0_ 1
      have z0_16 := congrFun hT0_ 16
      have z0_17 := congrFun hT0_ 17
      have z0_18 := congrFun hT0_ 18
      try (simp (decide := true) only [ax, tabs, s0, Int.reduceToNat, List.length_map] at z0_1 z0_16 z0_17 z0_18)
      clear hT0_
      refine AW.range cs.length (fun i T M' => AgT [1, 16, 17] T T0_ ∧ (∀ j (hj : j < cs.length), j < i → isClueF p cs[j] = true) ∧ (M ++ [.mem [iv p, .fz 3 (cs.map cv)]]) <+: M') (by omega) (by simp (decide := true) only [ax, tabs, s0, Int.reduceToNat, z0_1, z0_16, z0_17, z0_18, List.length_map]) (by simp (decide := true) only [ax, tabs, s0, Int.reduceToNat, z0_1, z0_16, z0_17, z0_18, List.length_map]) (by decide) (by decide) ⟨AgT_refl _ _, (by first | (simp (decide := true) only [ax, tabs, s0, Int.reduceToNat, z0_1, z0_16, z0_17, z0_18, List.length_map]; done) | (simp (decide := true) only [ax, tabs, s0, Int.reduceToNat, z0_1, z0_16, z0_17, z0_18, List.length_map]; rfl) | rfl | (intros; omega) | (simp (decide := true) only [ax, tabs, s0, Int.reduceToNat, z0_1, z0_16, z0_17, z0_18, List.length_map]; exact Tell.nil _) | (simp (decide := true) only [ax, tabs, s0, Int.reduceToNat, z0_1, z0_16, z0_17, z0_18, List.length_map]; exact Or.inl ⟨rfl, rfl⟩)), (by first | rfl | exact List.prefix_rfl | (simp; done) | (simp (decide := true) only [ax, tabs, s0, Int.reduceToNat, z0_1, z0_16, z0_17, z0_18, List.length_map]; done))⟩ ?_ ?_ ?_
      · rintro i T M' r ⟨fr, h1, hM⟩
        try (simp (decide := true) only [ax, tabs, s0, Int.reduceToNat, AgT_upd, fr, hM, h1])
        repeat' (first | assumption | apply And.intro)
      · rintro i T M' hi ⟨fr, h1, J, rfl⟩ hI hN
        have y0_1 := (fr 1 (by decide)).trans z0_1
        have y0_16 := (fr 16 (by decide)).trans z0_16
        have y0_17 := (fr 17 (by decide)).trans z0_17
        try simp only [List.append_assoc, List.cons_append, List.nil_append] at h1
        refine AW.block ?_
        try (simp (decide := true) only [ax, tabs, s0, Int.reduceToNat, AgT_cons, AgT_nil, and_true, y0_1, z0_1, y0_16, z0_16, y0_17, z0_17, h1, hI, hN, List.prefix_append, List.prefix_append_right_inj, List.cons_prefix_cons, List.nil_prefix, List.append_assoc, List.cons_append, List.nil_append, and_self, List.length_map, hi, cv_get hi, cv])
        repeat (first
          | refine AW.seq ?_
          | refine AW.blockS ?_
          | ((first | refine AW.skip ?_ | refine AW.exit ?_ | refine AW.opsN rfl ?_ | refine AW.ret ?_); try (simp (decide := true) only [ax, tabs, s0, Int.reduceToNat, AgT_cons, AgT_nil, and_true, y0_1, z0_1, y0_16, z0_16, y0_17, z0_17, h1, hI, hN, List.prefix_append, List.prefix_append_right_inj, List.cons_prefix_cons, List.nil_prefix, List.append_assoc, List.cons_append, List.nil_append, and_self, List.length_map, hi, cv_get hi, cv]))
          | (refine AW.condT ?_ ?_; (focus (simp (decide := true) only [ax, tabs, s0, Int.reduceToNat, AgT_cons, AgT_nil, and_true, y0_1, z0_1, y0_16, z0_16, y0_17, z0_17, h1, hI, hN, List.prefix_append, List.prefix_append_right_inj, List.cons_prefix_cons, List.nil_prefix, List.append_assoc, List.cons_append, List.nil_append, and_self, List.length_map, hi, cv_get hi, cv]; done)))
          | (refine AW.condF ?_ ?_; (focus (simp (decide := true) only [ax, tabs, s0, Int.reduceToNat, AgT_cons, AgT_nil, and_true, y0_1, z0_1, y0_16, z0_16, y0_17, z0_17, h1, hI, hN, List.prefix_append, List.prefix_append_right_inj, List.cons_prefix_cons, List.nil_prefix, List.append_assoc, List.cons_append, List.nil_append, and_self, List.length_map, hi, cv_get hi, cv]; done))))
        refine AC.det (pzClue_ok p cs[i] _ hp2) ?_
        try (simp (decide := true) only [ax, tabs, s0, Int.reduceToNat, AgT_cons, AgT_nil, and_true, y0_1, z0_1, y0_16, z0_16, y0_17, z0_17, h1, hI, hN, List.prefix_append, List.prefix_append_right_inj, List.cons_prefix_cons, List.nil_prefix, List.append_assoc, List.cons_append, List.nil_append, and_self])
        try (simp (decide := true) only [ax, tabs, s0, Int.reduceToNat, AgT_cons, AgT_nil, and_true, y0_1, z0_1, y0_16, z0_16, y0_17, z0_17, h1, hI, hN, List.prefix_append, List.prefix_append_right_inj, List.cons_prefix_cons, List.nil_prefix, List.append_assoc, List.cons_append, List.nil_append, and_self])
        repeat (first
          | refine AW.seq ?_
          | refine AW.blockS ?_
          | ((first | refine AW.skip ?_ | refine AW.exit ?_ | refine AW.opsN rfl ?_ | refine AW.ret ?_); try (simp (decide := true) only [ax, tabs, s0, Int.reduceToNat, AgT_cons, AgT_nil, and_true, y0_1, z0_1, y0_16, z0_16, y0_17, z0_17, h1, hI, hN, List.prefix_append, List.prefix_append_right_inj, List.cons_prefix_cons, List.nil_prefix, List.append_assoc, List.cons_append, List.nil_append, and_self]))
          | (refine AW.condT ?_ ?_; (focus (simp (decide := true) only [ax, tabs, s0, Int.reduceToNat, AgT_cons, AgT_nil, and_true, y0_1, z0_1, y0_16, z0_16, y0_17, z0_17, h1, hI, hN, List.prefix_append, List.prefix_append_right_inj, List.cons_prefix_cons, List.nil_prefix, List.append_assoc, List.cons_append, List.nil_append, and_self]; done)))
          | (refine AW.condF ?_ ?_; (focus (simp (decide := true) only [ax, tabs, s0, Int.reduceToNat, AgT_cons, AgT_nil, and_true, y0_1, z0_1, y0_16, z0_16, y0_17, z0_17, h1, hI, hN, List.prefix_append, List.prefix_append_right_inj, List.cons_prefix_cons, List.nil_prefix, List.append_assoc, List.cons_append, List.nil_append, and_self]; done))))
        repeat refine AW.seq ?_
        refine AW.cond (!isClueF p cs[i]) (by simp (decide := true) only [ax, tabs, s0, Int.reduceToNat, AgT_cons, AgT_nil, and_true, y0_1, z0_1, y0_16, z0_16, y0_17, z0_17, h1, hI, hN, List.prefix_append, List.prefix_append_right_inj, List.cons_prefix_cons, List.nil_prefix, List.append_assoc, List.cons_append, List.nil_append, and_self]) (fun h => ?_) (fun h => ?_)
        · have h' : isClueF p cs[i] = false := by simpa using h
          try (simp (decide := true) only [ax, tabs, s0, Int.reduceToNat, AgT_cons, AgT_nil, and_true, y0_1, z0_1, y0_16, z0_16, y0_17, z0_17, h1, hI, hN, List.prefix_append, List.prefix_append_right_inj, List.cons_prefix_cons, List.nil_prefix, List.append_assoc, List.cons_append, List.nil_append, and_self])
          repeat (first
            | refine AW.seq ?_
            | refine AW.blockS ?_
            | ((first | refine AW.skip ?_ | refine AW.exit ?_ | refine AW.opsN rfl ?_ | refine AW.ret ?_); try (simp (decide := true) only [ax, tabs, s0, Int.reduceToNat, AgT_cons, AgT_nil, and_true, y0_1, z0_1, y0_16, z0_16, y0_17, z0_17, h1, hI, hN, List.prefix_append, List.prefix_append_right_inj, List.cons_prefix_cons, List.nil_prefix, List.append_assoc, List.cons_append, List.nil_append, and_self]))
            | (refine AW.condT ?_ ?_; (focus (simp (decide := true) only [ax, tabs, s0, Int.reduceToNat, AgT_cons, AgT_nil, and_true, y0_1, z0_1, y0_16, z0_16, y0_17, z0_17, h1, hI, hN, List.prefix_append, List.prefix_append_right_inj, List.cons_prefix_cons, List.nil_prefix, List.append_assoc, List.cons_append, List.nil_append, and_self]; done)))
            | (refine AW.condF ?_ ?_; (focus (simp (decide := true) only [ax, tabs, s0, Int.reduceToNat, AgT_cons, AgT_nil, and_true, y0_1, z0_1, y0_16, z0_16, y0_17, z0_17, h1, hI, hN, List.prefix_append, List.prefix_append_right_inj, List.cons_prefix_cons, List.nil_prefix, List.append_assoc, List.cons_append, List.nil_append, and_self]; done))))
          first
            | refine leftJ (.inr rfl) hcl (Nat.le_refl _) (by simp (decide := true) only [ax, tabs, s0, Int.reduceToNat]; rfl) ?_ rfl ⟨rfl, rfl⟩
            | refine leftS (.inr rfl) hcl (Nat.le_refl _) (by simp (decide := true) only [ax, tabs, s0, Int.reduceToNat]; rfl) ?_ rfl ⟨rfl, rfl⟩
          simp (decide := true) only [ax, tabs, s0, Int.reduceToNat]
          have : (cs.any fun c => !isClueF p c) = true := by rw [List.any_eq_true]; exact ⟨cs[i], List.getElem_mem hi, by rw [h']; simp⟩
          rw [isPuzF, hp, h7, this]; rfl
        · have h' : isClueF p cs[i] = true := by simpa using h
          try (simp (decide := true) only [ax, tabs, s0, Int.reduceToNat, AgT_cons, AgT_nil, and_true, y0_1, z0_1, y0_16, z0_16, y0_17, z0_17, h1, hI, hN, List.prefix_append, List.prefix_append_right_inj, List.cons_prefix_cons, List.nil_prefix, List.append_assoc, List.cons_append, List.nil_append, and_self])
          repeat (first
            | refine AW.seq ?_
            | refine AW.blockS ?_
            | ((first | refine AW.skip ?_ | refine AW.exit ?_ | refine AW.opsN rfl ?_ | refine AW.ret ?_); try (simp (decide := true) only [ax, tabs, s0, Int.reduceToNat, AgT_cons, AgT_nil, and_true, y0_1, z0_1, y0_16, z0_16, y0_17, z0_17, h1, hI, hN, List.prefix_append, List.prefix_append_right_inj, List.cons_prefix_cons, List.nil_prefix, List.append_assoc, List.cons_append, List.nil_append, and_self]))
            | (refine AW.condT ?_ ?_; (focus (simp (decide := true) only [ax, tabs, s0, Int.reduceToNat, AgT_cons, AgT_nil, and_true, y0_1, z0_1, y0_16, z0_16, y0_17, z0_17, h1, hI, hN, List.prefix_append, List.prefix_append_right_inj, List.cons_prefix_cons, List.nil_prefix, List.append_assoc, List.cons_append, List.nil_append, and_self]; done)))
            | (refine AW.condF ?_ ?_; (focus (simp (decide := true) only [ax, tabs, s0, Int.reduceToNat, AgT_cons, AgT_nil, and_true, y0_1, z0_1, y0_16, z0_16, y0_17, z0_17, h1, hI, hN, List.prefix_append, List.prefix_append_right_inj, List.cons_prefix_cons, List.nil_prefix, List.append_assoc, List.cons_append, List.nil_append, and_self]; done))))
          intro j hj hlt
          rcases Nat.lt_or_ge j i with h2 | h2
          · exact h1 j hj h2
          · have : j = i := by omega
            subst this; exact h'
      · rintro T M' ⟨fr, h1, J, rfl⟩
        have y0_1 := (fr 1 (by decide)).trans z0_1
        have y0_16 := (fr 16 (by decide)).trans z0_16
        have y0_17 := (fr 17 (by decide)).trans z0_17
        try simp only [List.append_assoc, List.cons_append, List.nil_append] at h1
        try (simp (decide := true) only [ax, tabs, s0, Int.reduceToNat, AgT_cons, AgT_nil, and_true, y0_1, z0_1, y0_16, z0_16, y0_17, z0_17, h1])
        repeat (first
          | refine AW.seq ?_
          | refine AW.blockS ?_
          | ((first | refine AW.skip ?_ | refine AW.exit ?_ | refine AW.opsN rfl ?_ | refine AW.ret ?_); try (simp (decide := true) only [ax, tabs, s0, Int.reduceToNat, AgT_cons, AgT_nil, and_true, y0_1, z0_1, y0_16, z0_16, y0_17, z0_17, h1]))
          | (refine AW.condT ?_ ?_; (focus (simp (decide := true) only [ax, tabs, s0, Int.reduceToNat, AgT_cons, AgT_nil, and_true, y0_1, z0_1, y0_16, z0_16, y0_17, z0_17, h1]; done)))
          | (refine AW.condF ?_ ?_; (focus (simp (decide := true) only [ax, tabs, s0, Int.reduceToNat, AgT_cons, AgT_nil, and_true, y0_1, z0_1, y0_16, z0_16, y0_17, z0_17, h1]; done))))
        first
          | refine leftJ (.inr rfl) hcl (Nat.le_refl _) (by simp (decide := true) only [ax, tabs, s0, Int.reduceToNat]; rfl) ?_ rfl ⟨rfl, rfl⟩
          | refine leftS (.inr rfl) hcl (Nat.le_refl _) (by simp (decide := true) only [ax, tabs, s0, Int.reduceToNat]; rfl) ?_ rfl ⟨rfl, rfl⟩
        simp (decide := true) only [ax, tabs, s0, Int.reduceToNat]
        have : (cs.any fun c => !isClueF p c) = false := by
          rw [List.any_eq_false]
          intro c hc
          obtain ⟨j, hj, rfl⟩ := List.getElem_of_mem hc
          rw [h1 j hj hj]; simp
        rw [isPuzF, hp, h7, this]; rfl
end Go.Ax
