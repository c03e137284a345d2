/- Chapter 9: what clues tell. -/
import Derived.Test.YtnbfoiidlbfbeaaGreatP6
set_option linter.unusedVariables false
set_option linter.unusedSimpArgs false
namespace Go.Ax
open Go.Proofs

def toldF (kind person : Int) (ts : List Int) : Clu :=
  if kind = 0 then (kind, person, tm ts person)
  else if kind = 1 then (kind, sumF ts, 0)
  else if kind = 2 then (kind, pairT ts false, 0)
  else if kind = 3 then (kind, pairT ts true, 0)
  else if kind = 4 then (kind, person, tm ts person - tm ts 0)
  else (kind, evenF ts, 0)
theorem told_ok (kind person : Int) (ts : List Int) (M : List AO) (h0 : 1 ≤ ts.length) (hl : ts.length ≤ 12) (hts : ∀ t ∈ ts, 0 ≤ t ∧ t ≤ 1000000) (hp : 0 ≤ person ∧ person < ts.length) :
    AC E 133 [iv kind, iv person, .fz 1 (ints ts)] M (fun r M' => r = cv (toldF kind person ts) ∧ M' = M) := by
  refine AC.body (fn := Tryz.f133) Tryz.func133 rfl rfl (by simp [Tryz.f133]) fun hcl => ?_
  simp only [Tryz.f133]
  have g0 := ints_get (xs := ts) (i := 0) (by omega)
  have gp := ints_get (xs := ts) (i := person.toNat) (by omega)
  have m0 : (0 : Int) < ts.length := by omega
  have b0 : 0 ≤ ts.getD 0 0 ∧ ts.getD 0 0 ≤ 1000000 := getD_all hts (by omega)
  have bp : 0 ≤ ts.getD person.toNat 0 ∧ ts.getD person.toNat 0 ≤ 1000000 := getD_all hts (by omega)
  have w1 : IntKind.i64.wrap (ts.getD person.toNat 0 - ts.getD 0 0) = ts.getD person.toNat 0 - ts.getD 0 0 := wrap_in (by omega) (by omega)
  repeat refine AW.seq ?_
  refine AW.ops ?_
  simp (decide := true) only [ax, tabs, s0, Int.reduceToNat]
  repeat refine AW.seq ?_
  refine AW.ops ?_
  simp (decide := true) only [ax, tabs, s0, Int.reduceToNat]
  first
  | refine AW.seq (AW.block ?_)
  | refine AW.block ?_
  repeat refine AW.seq ?_
  refine AW.ops ?_
  simp (decide := true) only [ax, tabs, s0, Int.reduceToNat]
  repeat refine AW.seq ?_
  refine AW.cond (decide (kind = 0)) (by simp (decide := true) only [ax, tabs, s0, Int.reduceToNat]) (fun h => ?_) (fun h => ?_)
  · have k0 : kind = 0 := of_decide_eq_true h
    repeat refine AW.seq ?_
    refine AW.ops ?_
    simp (decide := true) only [ax, tabs, s0, Int.reduceToNat, ints_length, hp.1, hp.2, gp]
    refine AW.ret ?_
    try (simp (decide := true) only [ax, tabs, s0, Int.reduceToNat])
    refine leftJ (.inr rfl) hcl (Nat.le_refl _) (by simp (decide := true) only [ax, tabs, s0, Int.reduceToNat]; rfl) ?_ rfl ⟨rfl, rfl⟩
    try (simp (decide := true) only [ax, tabs, s0, Int.reduceToNat, toldF, if_pos k0, cv, tm])
  have k0 : ¬ kind = 0 := of_decide_eq_false h
  repeat refine AW.seq ?_
  refine AW.ops ?_
  simp (decide := true) only [ax, tabs, s0, Int.reduceToNat]
  repeat refine AW.seq ?_
  refine AW.cond (decide (kind = 1)) (by simp (decide := true) only [ax, tabs, s0, Int.reduceToNat]) (fun h => ?_) (fun h => ?_)
  · have k1 : kind = 1 := of_decide_eq_true h
    repeat refine AW.seq ?_
    refine AW.ops ?_
    simp (decide := true) only [ax, tabs, s0, Int.reduceToNat]
    refine AC.det (sum_ok ts _ (by omega) hts) ?_
    try (simp (decide := true) only [ax, tabs, s0, Int.reduceToNat])
    try (simp (decide := true) only [ax, tabs, s0, Int.reduceToNat])
    refine AW.ret ?_
    try (simp (decide := true) only [ax, tabs, s0, Int.reduceToNat])
    refine leftJ (.inr rfl) hcl (Nat.le_refl _) (by simp (decide := true) only [ax, tabs, s0, Int.reduceToNat]; rfl) ?_ rfl ⟨rfl, rfl⟩
    try (simp (decide := true) only [ax, tabs, s0, Int.reduceToNat, toldF, if_neg k0, if_pos k1, cv])
  have k1 : ¬ kind = 1 := of_decide_eq_false h
  repeat refine AW.seq ?_
  refine AW.ops ?_
  simp (decide := true) only [ax, tabs, s0, Int.reduceToNat]
  repeat refine AW.seq ?_
  refine AW.cond (decide (kind = 2)) (by simp (decide := true) only [ax, tabs, s0, Int.reduceToNat]) (fun h => ?_) (fun h => ?_)
  · have k2 : kind = 2 := of_decide_eq_true h
    repeat refine AW.seq ?_
    refine AW.ops ?_
    simp (decide := true) only [ax, tabs, s0, Int.reduceToNat]
    refine AC.det (pairTime_ok ts _ h0 hl hts) ?_
    try (simp (decide := true) only [ax, tabs, s0, Int.reduceToNat])
    try (simp (decide := true) only [ax, tabs, s0, Int.reduceToNat])
    refine AW.ret ?_
    try (simp (decide := true) only [ax, tabs, s0, Int.reduceToNat])
    refine leftJ (.inr rfl) hcl (Nat.le_refl _) (by simp (decide := true) only [ax, tabs, s0, Int.reduceToNat]; rfl) ?_ rfl ⟨rfl, rfl⟩
    try (simp (decide := true) only [ax, tabs, s0, Int.reduceToNat, toldF, if_neg k0, if_neg k1, if_pos k2, cv])
  have k2 : ¬ kind = 2 := of_decide_eq_false h
  repeat refine AW.seq ?_
  refine AW.ops ?_
  simp (decide := true) only [ax, tabs, s0, Int.reduceToNat]
  repeat refine AW.seq ?_
  refine AW.cond (decide (kind = 3)) (by simp (decide := true) only [ax, tabs, s0, Int.reduceToNat]) (fun h => ?_) (fun h => ?_)
  · have k3 : kind = 3 := of_decide_eq_true h
    repeat refine AW.seq ?_
    refine AW.ops ?_
    simp (decide := true) only [ax, tabs, s0, Int.reduceToNat]
    refine AC.det (escortTime_ok ts _ h0 hl hts) ?_
    try (simp (decide := true) only [ax, tabs, s0, Int.reduceToNat])
    try (simp (decide := true) only [ax, tabs, s0, Int.reduceToNat])
    refine AW.ret ?_
    try (simp (decide := true) only [ax, tabs, s0, Int.reduceToNat])
    refine leftJ (.inr rfl) hcl (Nat.le_refl _) (by simp (decide := true) only [ax, tabs, s0, Int.reduceToNat]; rfl) ?_ rfl ⟨rfl, rfl⟩
    try (simp (decide := true) only [ax, tabs, s0, Int.reduceToNat, toldF, if_neg k0, if_neg k1, if_neg k2, if_pos k3, cv])
  have k3 : ¬ kind = 3 := of_decide_eq_false h
  repeat refine AW.seq ?_
  refine AW.ops ?_
  simp (decide := true) only [ax, tabs, s0, Int.reduceToNat]
  repeat refine AW.seq ?_
  refine AW.cond (decide (kind = 4)) (by simp (decide := true) only [ax, tabs, s0, Int.reduceToNat]) (fun h => ?_) (fun h => ?_)
  · have k4 : kind = 4 := of_decide_eq_true h
    repeat refine AW.seq ?_
    refine AW.draw Emix [2, 2, 2, 2, 0, 0, 2, 0, 0, 2] [0, 0, 0, 0, 12, 28, 0, 64, 192, 508, 1023, 2047] (by kernel_rfl) ?_
    simp (decide := true) only [ax, axd, tabs, s0, Int.reduceToNat, ints_length, hp.1, hp.2, gp, g0, m0, w1]
    refine AW.ret ?_
    try (simp (decide := true) only [ax, tabs, s0, Int.reduceToNat])
    refine leftJ (.inr rfl) hcl (Nat.le_refl _) (by simp (decide := true) only [ax, tabs, s0, Int.reduceToNat]; rfl) ?_ rfl ⟨rfl, rfl⟩
    try (simp (decide := true) only [ax, tabs, s0, Int.reduceToNat, toldF, if_neg k0, if_neg k1, if_neg k2, if_neg k3, if_pos k4, cv, tm])
  have k4 : ¬ kind = 4 := of_decide_eq_false h
  refine AW.skip ?_
  simp (decide := true) only [ax, tabs, s0, Int.reduceToNat]
  repeat refine AW.seq ?_
  refine AW.ops ?_
  simp (decide := true) only [ax, tabs, s0, Int.reduceToNat]
  refine AC.det (even_ok ts _ (by omega) hts) ?_
  try (simp (decide := true) only [ax, tabs, s0, Int.reduceToNat])
  try (simp (decide := true) only [ax, tabs, s0, Int.reduceToNat])
  refine AW.ret ?_
  refine leftJ (.inr rfl) hcl (Nat.le_refl _) (by simp (decide := true) only [ax, tabs, s0, Int.reduceToNat]; rfl) ?_ rfl ⟨rfl, rfl⟩
  try (simp (decide := true) only [ax, tabs, s0, Int.reduceToNat, toldF, if_neg k0, if_neg k1, if_neg k2, if_neg k3, if_neg k4, cv])

def mn (a b : Int) : Int := if b < a then b else a
def sameC (c d : Clu) : Bool := decide (c.1 = d.1) && (decide (c.2.1 = d.2.1) && (decide (c.2.2 = d.2.2) && true))
def fitsF (c : Clu) (ts : List Int) : Bool := sameC (toldF c.1 (mn c.2.1 ((ts.length : Int) - 1)) ts) c
theorem fits_ok (c : Clu) (ts : List Int) (M : List AO) (h0 : 1 ≤ ts.length) (hl : ts.length ≤ 12) (hts : ∀ t ∈ ts, 0 ≤ t ∧ t ≤ 1000000) (hc : 0 ≤ c.2.1) :
    AC E 108 [cv c, .fz 1 (ints ts)] M (fun r M' => r = .bool (fitsF c ts) ∧ M' = M) := by
  refine AC.body (fn := Tryz.f108) Tryz.func108 rfl rfl (by simp [Tryz.f108]) fun hcl => ?_
  simp only [Tryz.f108]
  have w1 : IntKind.i64.wrap ((ts.length : Int) - 1) = (ts.length : Int) - 1 := wrap_in (by omega) (by omega)
  repeat refine AW.seq ?_
  refine AW.ops ?_
  simp (decide := true) only [ax, tabs, s0, Int.reduceToNat, cv]
  repeat refine AW.seq ?_
  refine AW.draw Emix [0, 0, 0, 0, 2, 2, 2, 2, 2, 0, 0, 2, 2] [0, 1, 0, 4, 0, 16, 48, 124, 0, 511, 0, 2047, 4095] (by kernel_rfl) ?_
  simp (decide := true) only [ax, axd, tabs, s0, Int.reduceToNat, cv, ints_length, w1]
  refine ⟨_, told_ok c.1 (mn c.2.1 ((ts.length : Int) - 1)) ts _ h0 hl hts (by unfold mn; split <;> omega), ?_⟩
  simp (decide := true) only [ax, axd, tabs, s0, Int.reduceToNat, cv]
  refine AW.ret (leftJ (.inr rfl) hcl (Nat.le_refl _) (by simp (decide := true) only [ax, tabs, s0, Int.reduceToNat]; rfl) ?_ rfl ⟨rfl, rfl⟩)
  simp (decide := true) only [ax, tabs, s0, Int.reduceToNat, fitsF, sameC]
theorem hidden11_ok (c : Clu) (ts : List Int) (o : Nat) (M : List AO) (ho : M[o]? = some (.mem [.fz 1 (ints ts)])) (h0 : 1 ≤ ts.length) (hl : ts.length ≤ 12) (hts : ∀ t ∈ ts, 0 ≤ t ∧ t ≤ 1000000) (hc : 0 ≤ c.2.1) :
    AC E 107 [cv c, .ptr o 0 1] M (fun r M' => r = .bool (!fitsF c ts) ∧ M' = M) := by
  refine AC.body (fn := Tryz.f107) Tryz.func107 rfl rfl (by simp [Tryz.f107]) fun hcl => ?_
  simp only [Tryz.f107]
  have hu : ∀ x, (M ++ x)[o]? = some (.mem [.fz 1 (ints ts)]) := fun x => by rw [List.getElem?_append_left (lt_of_obj ho)]; exact ho
  repeat refine AW.seq ?_
  refine AW.ops ?_
  simp (decide := true) only [ax, tabs, s0, Int.reduceToNat, cv]
  repeat refine AW.seq ?_
  refine AW.ops ?_
  simp (decide := true) only [ax, tabs, s0, Int.reduceToNat, hu]
  refine AC.det (fits_ok c ts _ h0 hl hts hc) ?_
  try (simp (decide := true) only [ax, tabs, s0, Int.reduceToNat])
  try (simp (decide := true) only [ax, tabs, s0, Int.reduceToNat])
  refine AW.ret (leftJ (.inr rfl) hcl (Nat.le_refl _) (by simp (decide := true) only [ax, tabs, s0, Int.reduceToNat]; rfl) ?_ rfl ⟨rfl, rfl⟩)
  simp (decide := true) only [ax, tabs, s0, Int.reduceToNat]
end Go.Ax
