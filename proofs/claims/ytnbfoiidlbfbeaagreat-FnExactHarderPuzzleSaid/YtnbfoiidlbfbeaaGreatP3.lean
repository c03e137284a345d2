/- Chapter 2: orders of pace, rounds. -/
import Derived.Test.YtnbfoiidlbfbeaaGreatP2
set_option linter.unusedVariables false
set_option linter.unusedSimpArgs false
namespace Go.Ax
open Go.Proofs

/-- What two people are in order. -/
def paceI (ts : List Int) (a b : Int) : Int := if cmpI (ts.getD a.toNat 0) (ts.getD b.toNat 0) = 0 then cmpI a b else cmpI (ts.getD a.toNat 0) (ts.getD b.toNat 0)
theorem pace1_ok (ts : List Int) (a b : Int) (o : Nat) (M : List AO) (ho : M[o]? = some (.mem [.fz 1 (ints ts)])) (ha : 0 ≤ a ∧ a < ts.length) (hb : 0 ≤ b ∧ b < ts.length) :
    AC E 76 [iv a, iv b, .ptr o 0 1] M (fun r M' => r = iv (paceI ts a b) ∧ M' = M) := by
  refine AC.body (fn := Tryz.f76) Tryz.func76 rfl rfl (by simp [Tryz.f76]) fun hcl => ?_
  simp only [Tryz.f76]
  have hga := ints_get (xs := ts) (i := a.toNat) (by omega)
  have hgb := ints_get (xs := ts) (i := b.toNat) (by omega)
  repeat refine AW.seq ?_
  refine AW.ops ?_
  simp (decide := true) only [ax, tabs, s0, Int.reduceToNat]
  repeat refine AW.seq ?_
  refine AW.draw Emix [0, 2, 0, 0, 0, 2, 0, 0, 0, 2, 2, 0, 2, 0, 2] [0, 0, 3, 7, 0, 0, 48, 112, 255, 0, 0, 2047, 4095, 8191, 16383] (by kernel_rfl) ?_
  simp (decide := true) only [ax, axd, tabs, s0, Int.reduceToNat, ho, ha.1, ha.2, hb.1, hb.2, ints_length, hga, hgb]
  refine ⟨_, cmpCompare_ok _ _ M, ?_⟩
  simp (decide := true) only [ax, axd, tabs, s0, Int.reduceToNat]
  refine ⟨_, cmpCompare_ok _ _ M, ?_⟩
  simp (decide := true) only [ax, axd, tabs, s0, Int.reduceToNat]
  refine ⟨_, cmpOr2_ok _ _ M, ?_⟩
  refine AW.ret (leftS (.inr rfl) hcl (Nat.le_refl _) (by simp (decide := true) only [ax, tabs, s0, Int.reduceToNat]; rfl) ?_ rfl ⟨rfl, rfl⟩)
  simp (decide := true) only [ax, tabs, s0, Int.reduceToNat, paceI]
/-- The order of pace. -/
def paceL (ts : List Int) : List Int := insTo (fun x y => decide (paceI ts x y < 0)) (ts.length - 1) ((List.range ts.length).map fun (i : Nat) => (i : Int))
def upto (n : Nat) : List Int := (List.range n).map fun (i : Nat) => (i : Int)
theorem upto_succ (n : Nat) : upto (n + 1) = upto n ++ [(n : Int)] := by simp [upto, List.range_succ]
theorem upto_length (n : Nat) : (upto n).length = n := by simp [upto]
theorem ints_append (xs ys : List Int) : ints (xs ++ ys) = ints xs ++ ints ys := by simp [ints]
theorem pace_ok (ts : List Int) (M : List AO) (hl : ts.length ≤ 12) : AC E 37 [.fz 1 (ints ts)] M (fun r M' => r = .fz 1 (ints (paceL ts)) ∧ M' = M) := by
  refine AC.body (fn := Tryz.f37) Tryz.func37 rfl rfl (by simp [Tryz.f37]) fun hcl => ?_
  simp only [Tryz.f37]
  repeat refine AW.seq ?_
  refine AW.ops ?_
  simp (decide := true) only [ax, tabs, s0, Int.reduceToNat]
  repeat refine AW.seq ?_
  refine AW.ops ?_
  simp (decide := true) only [ax, tabs, s0, Int.reduceToNat]
  repeat refine AW.seq ?_
  refine AW.ops ?_
  simp (decide := true) only [ax, tabs, s0, Int.reduceToNat]
  refine AW.range ts.length (fun i T M' => T 1 = .ptr M.length 0 1 ∧ T 3 = .sl 1 (M.length + 1) 0 i i ∧ M' = M ++ [.mem [.fz 1 (ints ts)], .mem (ints (upto i))]) (by omega) (by simp (decide := true) only [ax, tabs, s0, Int.reduceToNat]) (by simp (decide := true) only [ax, tabs, s0, Int.reduceToNat, ints_length]) (by decide) (by decide) ⟨by (first | (simp (decide := true) only [ax, tabs, s0, Int.reduceToNat]; done) | (simp (decide := true) only [ax, tabs, s0, Int.reduceToNat]; rfl) | rfl), by (first | (simp (decide := true) only [ax, tabs, s0, Int.reduceToNat]; done) | (simp (decide := true) only [ax, tabs, s0, Int.reduceToNat]; rfl) | rfl), by (first | (simp (decide := true) only [ax, tabs, s0, Int.reduceToNat]; done) | (simp (decide := true) only [ax, tabs, s0, Int.reduceToNat]; rfl) | rfl)⟩ ?_ ?_ ?_
  · rintro i T M' r ⟨h1, h3, hM⟩
    refine ⟨⟨?_, ?_, hM⟩, ⟨?_, ?_, hM⟩, ⟨?_, ?_, hM⟩⟩ <;> simp (decide := true) only [ax, tabs, s0, Int.reduceToNat, h1, h3]
  · rintro i T M' hi ⟨h1, h3, rfl⟩ hI hN
    refine AW.block ?_
    repeat refine AW.seq ?_
    refine AW.ops ?_
    simp (decide := true) only [ax, tabs, s0, Int.reduceToNat, h1, h3, hI, hN]
    have e1 : (i + 1) * 8 ≤ 140737488355328 := by omega
    repeat refine AW.seq ?_
    refine AW.lits [2, 2, 2] ?_
    simp (decide := true) only [ax, axd, tabs, s0, Int.reduceToNat, h1, h3, hI, hN, ints_length, upto_length, e1]
    rw [upto_succ, ints_append]; rfl
  · rintro T M' ⟨h1, h3, rfl⟩
    try (simp (decide := true) only [ax, tabs, s0, Int.reduceToNat])
    repeat refine AW.seq ?_
    refine AW.ops ?_
    simp (decide := true) only [ax, tabs, s0, Int.reduceToNat, h1, h3]
    have hb : ∀ x, (M ++ [AO.mem [.fz 1 (ints ts)], AO.dead]).set (M.length + 1) x = M ++ [AO.mem [.fz 1 (ints ts)], x] := by intro x; simp (decide := true) only [ax, tabs, s0, Int.reduceToNat]
    have hs := SortFunc_ok (upto ts.length) 76 [.ptr M.length 0 1] (paceI ts) (M.length + 1) (M ++ [.mem [.fz 1 (ints ts)], .dead]) (by rw [upto_length]; exact hl) (by simp) (fun x => 0 ≤ x ∧ x < ts.length)
      (fun x hx => by
        simp only [upto, List.mem_map, List.mem_range] at hx
        obtain ⟨i, hi, rfl⟩ := hx
        omega)
      (fun x y ys hx hy => by
        rw [hb]
        exact pace1_ok ts x y M.length _ (by simp (decide := true) only [ax, tabs, s0, Int.reduceToNat]) hx hy)
    simp only [hb, upto_length] at hs
    refine AC.det (hs) ?_
    try (simp (decide := true) only [ax, tabs, s0, Int.reduceToNat])
    repeat refine AW.seq ?_
    refine AW.ops ?_
    simp (decide := true) only [ax, tabs, s0, Int.reduceToNat, h1, h3]
    have hpl : (paceL ts).length = ts.length := by unfold paceL; rw [insTo_length, ← upto, upto_length]
    refine AW.ret (left (.inr rfl) hcl (Nat.le_refl _) (by simp (decide := true) only [ax, tabs, s0, Int.reduceToNat]; rfl) ?_ ⟨rfl, rfl⟩)
    try (simp (decide := true) only [ax, tabs, s0, Int.reduceToNat, h1, h3])
    have ht := tell_ints (M' := M ++ [.mem [.fz 1 (ints ts)], .mem (ints (paceL ts))]) (n := M.length) (o := M.length + 1) (xs := paceL ts) (by simp (decide := true) only [ax, tabs, s0, Int.reduceToNat]) (by omega)
    rw [hpl] at ht
    exact ht
end Go.Ax
