/- Chapter 9: which clues and puzzles are valid. -/
import Derived.Test.YtnbfoiidlbfbeaaGreatP7
set_option linter.unusedVariables false
set_option linter.unusedSimpArgs false
namespace Go.Ax
open Go.Proofs

abbrev inB (x lo hi : Int) : Bool := decide (lo ≤ x) && decide (x ≤ hi)
theorem isPeople_ok (p : Int) (M : List AO) : AC E 146 [iv p] M (fun r M' => r = .bool (inB p 1 4) ∧ M' = M) := by
  refine AC.body (fn := Tryz.f146) Tryz.func146 rfl rfl (by simp [Tryz.f146]) fun hcl => ?_
  simp only [Tryz.f146]
  repeat refine AW.seq ?_
  refine AW.ops ?_
  simp (decide := true) only [ax, tabs, s0, Int.reduceToNat]
  repeat refine AW.seq ?_
  refine AW.ops ?_
  simp (decide := true) only [ax, tabs, s0, Int.reduceToNat]
  refine AC.det (in_ok p 1 4 M) ?_
  try (simp (decide := true) only [ax, tabs, s0, Int.reduceToNat])
  refine AW.ret (leftS (.inr rfl) hcl (Nat.le_refl _) (by simp (decide := true) only [ax, tabs, s0, Int.reduceToNat]; rfl) ?_ rfl ⟨rfl, rfl⟩)
  simp (decide := true) only [ax, tabs, s0, Int.reduceToNat]
theorem pzPeople_ok (p : Int) (M : List AO) : AC E 87 [iv p] M (fun r M' => r = .bool (inB p 1 4) ∧ M' = M) := by
  refine AC.body (fn := Tryz.f87) Tryz.func87 rfl rfl (by simp [Tryz.f87]) fun hcl => ?_
  simp only [Tryz.f87]
  repeat refine AW.seq ?_
  refine AW.ops ?_
  simp (decide := true) only [ax, tabs, s0, Int.reduceToNat]
  repeat refine AW.seq ?_
  refine AW.ops ?_
  simp (decide := true) only [ax, tabs, s0, Int.reduceToNat]
  refine AC.det (l1In_ok p 1 4 M) ?_
  try (simp (decide := true) only [ax, tabs, s0, Int.reduceToNat])
  refine AW.ret (leftS (.inr rfl) hcl (Nat.le_refl _) (by simp (decide := true) only [ax, tabs, s0, Int.reduceToNat]; rfl) ?_ rfl ⟨rfl, rfl⟩)
  simp (decide := true) only [ax, tabs, s0, Int.reduceToNat]
def isClueF (p : Int) (c : Clu) : Bool :=
  if inB p 1 4 = true then
    if c.1 = 0 then inB c.2.1 0 (p - 1) && inB c.2.2 1 6
    else if c.1 = 1 then inB c.2.1 1 24 && decide (c.2.2 = 0)
    else if c.1 = 2 ∨ c.1 = 3 then inB c.2.1 1 100 && decide (c.2.2 = 0)
    else if c.1 = 4 then inB c.2.1 0 (p - 1) && inB c.2.2 0 5
    else if c.1 = 5 then inB c.2.1 0 p && decide (c.2.2 = 0)
    else false
  else false
theorem IsClue_ok (p : Int) (c : Clu) (M : List AO) : AC E 145 [iv p, cv c] M (fun r M' => r = .bool (isClueF p c) ∧ M' = M) := by
  refine AC.body (fn := Tryz.f145) Tryz.func145 rfl rfl (by simp [Tryz.f145]) fun hcl => ?_
  simp only [Tryz.f145]
  repeat refine AW.seq ?_
  refine AW.ops ?_
  simp (decide := true) only [ax, tabs, s0, Int.reduceToNat, cv]
  repeat refine AW.seq ?_
  refine AW.ops ?_
  simp (decide := true) only [ax, tabs, s0, Int.reduceToNat]
  refine AC.det (in_ok c.2.1 0 _ _) ?_
  try (simp (decide := true) only [ax, tabs, s0, Int.reduceToNat])
  try (simp (decide := true) only [ax, tabs, s0, Int.reduceToNat])
  generalize hq : (decide (0 ≤ c.2.1) && decide (c.2.1 ≤ IntKind.i64.wrap (p - 1))) = q
  repeat refine AW.seq ?_
  refine AW.ops ?_
  simp (decide := true) only [ax, tabs, s0, Int.reduceToNat]
  refine AC.det (isPeople_ok p _) ?_
  try (simp (decide := true) only [ax, tabs, s0, Int.reduceToNat])
  try (simp (decide := true) only [ax, tabs, s0, Int.reduceToNat])
  cases hp : inB p 1 4 with
  | false =>
    try (simp (decide := true) only [ax, tabs, s0, Int.reduceToNat])
    repeat refine AW.seq ?_
    refine AW.condT (by simp (decide := true) only [ax, tabs, s0, Int.reduceToNat]) ?_
    repeat refine AW.seq ?_
    refine AW.ops ?_
    simp (decide := true) only [ax, tabs, s0, Int.reduceToNat]
    refine AW.ret ?_
    try (simp (decide := true) only [ax, tabs, s0, Int.reduceToNat])
    refine leftJ (.inr rfl) hcl (Nat.le_refl _) (by simp (decide := true) only [ax, tabs, s0, Int.reduceToNat]; rfl) ?_ rfl ⟨rfl, rfl⟩
    try (simp (decide := true) only [ax, tabs, s0, Int.reduceToNat, isClueF, hp])
    rfl
  | true =>
    have hp2 : 1 ≤ p ∧ p ≤ 4 := by simpa using hp
    have hw : IntKind.i64.wrap (p - 1) = p - 1 := wrap_in (by omega) (by omega)
    rw [hw] at hq
    try (simp (decide := true) only [ax, tabs, s0, Int.reduceToNat])
    repeat refine AW.seq ?_
    refine AW.condF (by simp (decide := true) only [ax, tabs, s0, Int.reduceToNat]) ?_
    refine AW.skip ?_
    simp (decide := true) only [ax, tabs, s0, Int.reduceToNat]
    repeat refine AW.seq ?_
    refine AW.ops ?_
    simp (decide := true) only [ax, tabs, s0, Int.reduceToNat]
    refine AW.block ?_
    have hun : isClueF p c = (if c.1 = 0 then inB c.2.1 0 (p - 1) && inB c.2.2 1 6 else if c.1 = 1 then inB c.2.1 1 24 && decide (c.2.2 = 0) else if c.1 = 2 ∨ c.1 = 3 then inB c.2.1 1 100 && decide (c.2.2 = 0)
      else if c.1 = 4 then inB c.2.1 0 (p - 1) && inB c.2.2 0 5 else if c.1 = 5 then inB c.2.1 0 p && decide (c.2.2 = 0) else false) := by unfold isClueF; rw [if_pos hp]
    repeat refine AW.seq ?_
    refine AW.ops ?_
    simp (decide := true) only [ax, tabs, s0, Int.reduceToNat]
    repeat refine AW.seq ?_
    refine AW.cond (decide (c.1 = 0)) (by simp (decide := true) only [ax, tabs, s0, Int.reduceToNat]) (fun h => ?_) (fun h => ?_)
    · have k0 : c.1 = 0 := of_decide_eq_true h
      cases q with
      | false =>
        repeat refine AW.seq ?_
        refine AW.ops ?_
        simp (decide := true) only [ax, tabs, s0, Int.reduceToNat]
        refine AW.ret ?_
        try (simp (decide := true) only [ax, tabs, s0, Int.reduceToNat])
        refine leftJ (.inr rfl) hcl (Nat.le_refl _) (by simp (decide := true) only [ax, tabs, s0, Int.reduceToNat]; rfl) ?_ rfl ⟨rfl, rfl⟩
        try (simp (decide := true) only [ax, tabs, s0, Int.reduceToNat])
        congr 1
        rw [hun, if_pos k0]; simp only [inB, hq, Bool.true_and, Bool.false_and]
      | true =>
        repeat refine AW.seq ?_
        refine AW.ops ?_
        simp (decide := true) only [ax, tabs, s0, Int.reduceToNat]
        refine AC.det (in_ok c.2.2 1 6 _) ?_
        try (simp (decide := true) only [ax, tabs, s0, Int.reduceToNat])
        try (simp (decide := true) only [ax, tabs, s0, Int.reduceToNat])
        refine AW.ret ?_
        try (simp (decide := true) only [ax, tabs, s0, Int.reduceToNat])
        refine leftJ (.inr rfl) hcl (Nat.le_refl _) (by simp (decide := true) only [ax, tabs, s0, Int.reduceToNat]; rfl) ?_ rfl ⟨rfl, rfl⟩
        try (simp (decide := true) only [ax, tabs, s0, Int.reduceToNat])
        congr 1
        rw [hun, if_pos k0]; simp only [inB, hq, Bool.true_and, Bool.false_and]
    have k0 : ¬ c.1 = 0 := of_decide_eq_false h
    repeat refine AW.seq ?_
    refine AW.ops ?_
    simp (decide := true) only [ax, tabs, s0, Int.reduceToNat]
    repeat refine AW.seq ?_
    refine AW.cond (decide (c.1 = 1)) (by simp (decide := true) only [ax, tabs, s0, Int.reduceToNat]) (fun h => ?_) (fun h => ?_)
    · have k1 : c.1 = 1 := of_decide_eq_true h
      repeat refine AW.seq ?_
      refine AW.ops ?_
      simp (decide := true) only [ax, tabs, s0, Int.reduceToNat]
      refine AC.det (in_ok c.2.1 1 24 _) ?_
      try (simp (decide := true) only [ax, tabs, s0, Int.reduceToNat])
      try (simp (decide := true) only [ax, tabs, s0, Int.reduceToNat])
      cases hb : (decide (1 ≤ c.2.1) && decide (c.2.1 ≤ 24))
      · try (simp (decide := true) only [ax, tabs, s0, Int.reduceToNat])
        refine AW.ret ?_
        try (simp (decide := true) only [ax, tabs, s0, Int.reduceToNat])
        refine leftJ (.inr rfl) hcl (Nat.le_refl _) (by simp (decide := true) only [ax, tabs, s0, Int.reduceToNat]; rfl) ?_ rfl ⟨rfl, rfl⟩
        try (simp (decide := true) only [ax, tabs, s0, Int.reduceToNat])
        congr 1
        rw [hun, if_neg k0, if_pos k1]; simp only [inB, hb, Bool.true_and, Bool.false_and]
      · try (simp (decide := true) only [ax, tabs, s0, Int.reduceToNat])
        refine AW.ret ?_
        try (simp (decide := true) only [ax, tabs, s0, Int.reduceToNat])
        refine leftJ (.inr rfl) hcl (Nat.le_refl _) (by simp (decide := true) only [ax, tabs, s0, Int.reduceToNat]; rfl) ?_ rfl ⟨rfl, rfl⟩
        try (simp (decide := true) only [ax, tabs, s0, Int.reduceToNat])
        congr 1
        rw [hun, if_neg k0, if_pos k1]; simp only [inB, hb, Bool.true_and, Bool.false_and]
    have k1 : ¬ c.1 = 1 := of_decide_eq_false h
    repeat refine AW.seq ?_
    refine AW.ops ?_
    simp (decide := true) only [ax, tabs, s0, Int.reduceToNat]
    cases h2 : decide (c.1 = 2)
    · have k2 : ¬ c.1 = 2 := of_decide_eq_false h2
      repeat refine AW.seq ?_
      refine AW.condF (by simp (decide := true) only [ax, tabs, s0, Int.reduceToNat]) ?_
      repeat refine AW.seq ?_
      refine AW.ops ?_
      simp (decide := true) only [ax, tabs, s0, Int.reduceToNat]
      repeat refine AW.seq ?_
      refine AW.cond (decide (c.1 = 3)) (by simp (decide := true) only [ax, tabs, s0, Int.reduceToNat]) (fun h => ?_) (fun h => ?_)
      · have k3 : c.1 = 3 := of_decide_eq_true h
        repeat refine AW.seq ?_
        refine AW.ops ?_
        simp (decide := true) only [ax, tabs, s0, Int.reduceToNat]
        refine AC.det (in_ok c.2.1 1 100 _) ?_
        try (simp (decide := true) only [ax, tabs, s0, Int.reduceToNat])
        try (simp (decide := true) only [ax, tabs, s0, Int.reduceToNat])
        cases hb : (decide (1 ≤ c.2.1) && decide (c.2.1 ≤ 100))
        · try (simp (decide := true) only [ax, tabs, s0, Int.reduceToNat])
          refine AW.ret ?_
          try (simp (decide := true) only [ax, tabs, s0, Int.reduceToNat])
          refine leftJ (.inr rfl) hcl (Nat.le_refl _) (by simp (decide := true) only [ax, tabs, s0, Int.reduceToNat]; rfl) ?_ rfl ⟨rfl, rfl⟩
          try (simp (decide := true) only [ax, tabs, s0, Int.reduceToNat])
          congr 1
          rw [hun, if_neg k0, if_neg k1, if_pos (.inr k3)]; simp only [inB, hb, Bool.true_and, Bool.false_and]
        · try (simp (decide := true) only [ax, tabs, s0, Int.reduceToNat])
          refine AW.ret ?_
          try (simp (decide := true) only [ax, tabs, s0, Int.reduceToNat])
          refine leftJ (.inr rfl) hcl (Nat.le_refl _) (by simp (decide := true) only [ax, tabs, s0, Int.reduceToNat]; rfl) ?_ rfl ⟨rfl, rfl⟩
          try (simp (decide := true) only [ax, tabs, s0, Int.reduceToNat])
          congr 1
          rw [hun, if_neg k0, if_neg k1, if_pos (.inr k3)]; simp only [inB, hb, Bool.true_and, Bool.false_and]
      have k3 : ¬ c.1 = 3 := of_decide_eq_false h
      have k23 : ¬ (c.1 = 2 ∨ c.1 = 3) := by omega
      repeat refine AW.seq ?_
      refine AW.ops ?_
      simp (decide := true) only [ax, tabs, s0, Int.reduceToNat]
      repeat refine AW.seq ?_
      refine AW.cond (decide (c.1 = 4)) (by simp (decide := true) only [ax, tabs, s0, Int.reduceToNat]) (fun h => ?_) (fun h => ?_)
      · have k4 : c.1 = 4 := of_decide_eq_true h
        cases q with
        | false =>
          repeat refine AW.seq ?_
          refine AW.ops ?_
          simp (decide := true) only [ax, tabs, s0, Int.reduceToNat]
          refine AW.ret ?_
          try (simp (decide := true) only [ax, tabs, s0, Int.reduceToNat])
          refine leftJ (.inr rfl) hcl (Nat.le_refl _) (by simp (decide := true) only [ax, tabs, s0, Int.reduceToNat]; rfl) ?_ rfl ⟨rfl, rfl⟩
          try (simp (decide := true) only [ax, tabs, s0, Int.reduceToNat])
          congr 1
          rw [hun, if_neg k0, if_neg k1, if_neg k23, if_pos k4]; simp only [inB, hq, Bool.true_and, Bool.false_and]
        | true =>
          repeat refine AW.seq ?_
          refine AW.ops ?_
          simp (decide := true) only [ax, tabs, s0, Int.reduceToNat]
          refine AC.det (in_ok c.2.2 0 5 _) ?_
          try (simp (decide := true) only [ax, tabs, s0, Int.reduceToNat])
          try (simp (decide := true) only [ax, tabs, s0, Int.reduceToNat])
          refine AW.ret ?_
          try (simp (decide := true) only [ax, tabs, s0, Int.reduceToNat])
          refine leftJ (.inr rfl) hcl (Nat.le_refl _) (by simp (decide := true) only [ax, tabs, s0, Int.reduceToNat]; rfl) ?_ rfl ⟨rfl, rfl⟩
          try (simp (decide := true) only [ax, tabs, s0, Int.reduceToNat])
          congr 1
          rw [hun, if_neg k0, if_neg k1, if_neg k23, if_pos k4]; simp only [inB, hq, Bool.true_and, Bool.false_and]
      have k4 : ¬ c.1 = 4 := of_decide_eq_false h
      repeat refine AW.seq ?_
      refine AW.ops ?_
      simp (decide := true) only [ax, tabs, s0, Int.reduceToNat]
      repeat refine AW.seq ?_
      refine AW.cond (decide (c.1 = 5)) (by simp (decide := true) only [ax, tabs, s0, Int.reduceToNat]) (fun h => ?_) (fun h => ?_)
      · have k5 : c.1 = 5 := of_decide_eq_true h
        repeat refine AW.seq ?_
        refine AW.ops ?_
        simp (decide := true) only [ax, tabs, s0, Int.reduceToNat]
        refine AC.det (in_ok c.2.1 0 p _) ?_
        try (simp (decide := true) only [ax, tabs, s0, Int.reduceToNat])
        try (simp (decide := true) only [ax, tabs, s0, Int.reduceToNat])
        cases hb : (decide (0 ≤ c.2.1) && decide (c.2.1 ≤ p))
        · try (simp (decide := true) only [ax, tabs, s0, Int.reduceToNat])
          refine AW.ret ?_
          try (simp (decide := true) only [ax, tabs, s0, Int.reduceToNat])
          refine leftJ (.inr rfl) hcl (Nat.le_refl _) (by simp (decide := true) only [ax, tabs, s0, Int.reduceToNat]; rfl) ?_ rfl ⟨rfl, rfl⟩
          try (simp (decide := true) only [ax, tabs, s0, Int.reduceToNat])
          congr 1
          rw [hun, if_neg k0, if_neg k1, if_neg k23, if_neg k4, if_pos k5]; simp only [inB, hb, Bool.true_and, Bool.false_and]
        · try (simp (decide := true) only [ax, tabs, s0, Int.reduceToNat])
          refine AW.ret ?_
          try (simp (decide := true) only [ax, tabs, s0, Int.reduceToNat])
          refine leftJ (.inr rfl) hcl (Nat.le_refl _) (by simp (decide := true) only [ax, tabs, s0, Int.reduceToNat]; rfl) ?_ rfl ⟨rfl, rfl⟩
          try (simp (decide := true) only [ax, tabs, s0, Int.reduceToNat])
          congr 1
          rw [hun, if_neg k0, if_neg k1, if_neg k23, if_neg k4, if_pos k5]; simp only [inB, hb, Bool.true_and, Bool.false_and]
      have k5 : ¬ c.1 = 5 := of_decide_eq_false h
      refine AW.skip ?_
      simp (decide := true) only [ax, tabs, s0, Int.reduceToNat]
      repeat refine AW.seq ?_
      refine AW.ops ?_
      simp (decide := true) only [ax, tabs, s0, Int.reduceToNat]
      refine AW.ret ?_
      try (simp (decide := true) only [ax, tabs, s0, Int.reduceToNat])
      refine leftJ (.inr rfl) hcl (Nat.le_refl _) (by simp (decide := true) only [ax, tabs, s0, Int.reduceToNat]; rfl) ?_ rfl ⟨rfl, rfl⟩
      try (simp (decide := true) only [ax, tabs, s0, Int.reduceToNat])
      congr 1
      rw [hun, if_neg k0, if_neg k1, if_neg k23, if_neg k4, if_neg k5]
    · have k2 : c.1 = 2 := of_decide_eq_true h2
      repeat refine AW.seq ?_
      refine AW.condT (by simp (decide := true) only [ax, tabs, s0, Int.reduceToNat]) ?_
      refine AW.skip ?_
      simp (decide := true) only [ax, tabs, s0, Int.reduceToNat]
      repeat refine AW.seq ?_
      refine AW.condT (by simp (decide := true) only [ax, tabs, s0, Int.reduceToNat]) ?_
      repeat refine AW.seq ?_
      refine AW.ops ?_
      simp (decide := true) only [ax, tabs, s0, Int.reduceToNat]
      refine AC.det (in_ok c.2.1 1 100 _) ?_
      try (simp (decide := true) only [ax, tabs, s0, Int.reduceToNat])
      try (simp (decide := true) only [ax, tabs, s0, Int.reduceToNat])
      cases hb : (decide (1 ≤ c.2.1) && decide (c.2.1 ≤ 100))
      · try (simp (decide := true) only [ax, tabs, s0, Int.reduceToNat])
        refine AW.ret ?_
        try (simp (decide := true) only [ax, tabs, s0, Int.reduceToNat])
        refine leftJ (.inr rfl) hcl (Nat.le_refl _) (by simp (decide := true) only [ax, tabs, s0, Int.reduceToNat]; rfl) ?_ rfl ⟨rfl, rfl⟩
        try (simp (decide := true) only [ax, tabs, s0, Int.reduceToNat])
        congr 1
        rw [hun, if_neg k0, if_neg k1, if_pos (.inl k2)]; simp only [inB, hb, Bool.true_and, Bool.false_and]
      · try (simp (decide := true) only [ax, tabs, s0, Int.reduceToNat])
        refine AW.ret ?_
        try (simp (decide := true) only [ax, tabs, s0, Int.reduceToNat])
        refine leftJ (.inr rfl) hcl (Nat.le_refl _) (by simp (decide := true) only [ax, tabs, s0, Int.reduceToNat]; rfl) ?_ rfl ⟨rfl, rfl⟩
        try (simp (decide := true) only [ax, tabs, s0, Int.reduceToNat])
        congr 1
        rw [hun, if_neg k0, if_neg k1, if_pos (.inl k2)]; simp only [inB, hb, Bool.true_and, Bool.false_and]

/-- A puzzle as a value. -/
def pv (p : Int) (cs : List Clu) : AV := .agg [iv p, .fz 3 (cs.map cv)]
def isPuzF (p : Int) (cs : List Clu) : Bool := inB p 1 4 && (decide (cs.length ≤ 6) && !cs.any fun c => !isClueF p c)
theorem IsPuzzle1_ok (p : Int) (a : AV) (c : Clu) (o : Nat) (M : List AO) (ho : M[o]? = some (.mem [iv p, a])) : AC E 144 [cv c, .ptr o 0 2] M (fun r M' => r = .bool (!isClueF p c) ∧ M' = M) := by
  refine AC.body (fn := Tryz.f144) Tryz.func144 rfl rfl (by simp [Tryz.f144]) fun hcl => ?_
  simp only [Tryz.f144]
  have hu : ∀ x, (M ++ x)[o]? = some (.mem [iv p, a]) := fun x => by rw [List.getElem?_append_left (lt_of_obj ho)]; exact ho
  repeat refine AW.seq ?_
  refine AW.ops ?_
  simp (decide := true) only [ax, tabs, s0, Int.reduceToNat, cv]
  repeat refine AW.seq ?_
  refine AW.ops ?_
  simp (decide := true) only [ax, tabs, s0, Int.reduceToNat, hu]
  refine AC.det (IsClue_ok p c _) ?_
  try (simp (decide := true) only [ax, tabs, s0, Int.reduceToNat])
  try (simp (decide := true) only [ax, tabs, s0, Int.reduceToNat])
  refine AW.ret (leftJ (.inr rfl) hcl (Nat.le_refl _) (by simp (decide := true) only [ax, tabs, s0, Int.reduceToNat]; rfl) ?_ rfl ⟨rfl, rfl⟩)
  simp (decide := true) only [ax, tabs, s0, Int.reduceToNat]
theorem IsPuzzle_ok (p : Int) (cs : List Clu) (M : List AO) (hl : cs.length ≤ 2000000) : AC E 131 [pv p cs] M (fun r M' => r = .bool (isPuzF p cs) ∧ M' = M) := by
  refine AC.body (fn := Tryz.f131) Tryz.func131 rfl rfl (by simp [Tryz.f131]) fun hcl => ?_
  simp only [Tryz.f131]
  repeat refine AW.seq ?_
  refine AW.ops ?_
  simp (decide := true) only [ax, tabs, s0, Int.reduceToNat, pv]
  repeat refine AW.seq ?_
  refine AW.ops ?_
  simp (decide := true) only [ax, tabs, s0, Int.reduceToNat]
  repeat refine AW.seq ?_
  refine AW.ops ?_
  simp (decide := true) only [ax, tabs, s0, Int.reduceToNat]
  refine AC.det (isPeople_ok p _) ?_
  try (simp (decide := true) only [ax, tabs, s0, Int.reduceToNat])
  try (simp (decide := true) only [ax, tabs, s0, Int.reduceToNat])
  cases hp : inB p 1 4 with
  | false =>
    try (simp (decide := true) only [ax, tabs, s0, Int.reduceToNat])
    refine AW.ret (leftJ (.inr rfl) hcl (Nat.le_refl _) (by simp (decide := true) only [ax, tabs, s0, Int.reduceToNat]; rfl) ?_ rfl ⟨rfl, rfl⟩)
    try (simp (decide := true) only [ax, tabs, s0, Int.reduceToNat, isPuzF, hp, Bool.false_and])
  | true =>
    try (simp (decide := true) only [ax, tabs, s0, Int.reduceToNat, List.length_map])
    have h6 : decide ((cs.length : Int) ≤ 6) = decide (cs.length ≤ 6) := by
      by_cases h : cs.length ≤ 6
      · rw [decide_eq_true h, decide_eq_true (by omega)]
      · rw [decide_eq_false h, decide_eq_false (by omega)]
    rw [h6]
    cases h7 : decide (cs.length ≤ 6) with
    | false =>
      try (simp (decide := true) only [ax, tabs, s0, Int.reduceToNat])
      refine AW.ret (leftJ (.inr rfl) hcl (Nat.le_refl _) (by simp (decide := true) only [ax, tabs, s0, Int.reduceToNat]; rfl) ?_ rfl ⟨rfl, rfl⟩)
      try (simp (decide := true) only [ax, tabs, s0, Int.reduceToNat, isPuzF, hp, h7, Bool.false_and, Bool.true_and])
    | true =>
      try (simp (decide := true) only [ax, tabs, s0, Int.reduceToNat])
      refine AC.det (ContainsClue_ok cs _ _ (fun c => !isClueF p c) _ hl (fun c _ => IsPuzzle1_ok p (.fz 3 (cs.map cv)) c _ _ (by simp (decide := true) only [ax, tabs, s0, Int.reduceToNat]))) ?_
      try (simp (decide := true) only [ax, tabs, s0, Int.reduceToNat])
      try (simp (decide := true) only [ax, tabs, s0, Int.reduceToNat])
      refine AW.ret (leftJ (.inr rfl) hcl (Nat.le_refl _) (by simp (decide := true) only [ax, tabs, s0, Int.reduceToNat]; rfl) ?_ rfl ⟨rfl, rfl⟩)
      try (simp (decide := true) only [ax, tabs, s0, Int.reduceToNat, isPuzF, hp, h7, Bool.true_and])
end Go.Ax
