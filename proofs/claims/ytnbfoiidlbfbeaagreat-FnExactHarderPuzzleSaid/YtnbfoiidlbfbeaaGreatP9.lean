/- The reference's leaves. -/
import Derived.Test.YtnbfoiidlbfbeaaGreatP8
set_option linter.unusedVariables false
set_option linter.unusedSimpArgs false
namespace Go.Ax
open Go.Proofs

theorem l1Most_ok (a b : Int) (M : List AO) : AC E 142 [iv a, iv b] M (fun r M' => r = iv (if b < a then a else b) ∧ M' = M) := by
  refine AC.body (fn := Tryz.f142) Tryz.func142 rfl rfl (by simp [Tryz.f142]) fun hcl => ?_
  simp only [Tryz.f142]
  repeat refine AW.seq ?_
  refine AW.ops ?_
  simp (decide := true) only [ax, tabs, s0, Int.reduceToNat]
  repeat refine AW.seq ?_
  refine AW.ops ?_
  simp (decide := true) only [ax, tabs, s0, Int.reduceToNat]
  repeat refine AW.seq ?_
  refine AW.cond (decide (b < a)) (by simp (decide := true) only [ax, tabs, s0, Int.reduceToNat]) (fun h => ?_) (fun h => ?_)
  · have h : b < a := of_decide_eq_true h
    repeat refine AW.seq ?_
    refine AW.ops ?_
    simp (decide := true) only [ax, tabs, s0, Int.reduceToNat]
    refine AW.ret (leftS (.inr rfl) hcl (Nat.le_refl _) (by simp (decide := true) only [ax, tabs, s0, Int.reduceToNat]; rfl) ?_ rfl ⟨rfl, rfl⟩)
    simp (decide := true) only [ax, tabs, s0, Int.reduceToNat, if_pos h]
  · have h : ¬ b < a := of_decide_eq_false h
    refine AW.skip ?_
    simp (decide := true) only [ax, tabs, s0, Int.reduceToNat]
    repeat refine AW.seq ?_
    refine AW.ops ?_
    simp (decide := true) only [ax, tabs, s0, Int.reduceToNat]
    refine AW.ret (leftS (.inr rfl) hcl (Nat.le_refl _) (by simp (decide := true) only [ax, tabs, s0, Int.reduceToNat]; rfl) ?_ rfl ⟨rfl, rfl⟩)
    simp (decide := true) only [ax, tabs, s0, Int.reduceToNat, if_neg h]
theorem paTime_ok (ts l : List Int) (st : Int) (M : List AO) (hl : l.length ≤ 2000000) (hk : ∀ k ∈ l, 0 ≤ k ∧ k < ts.length) : AC E 129 [.agg [.fz 1 (ints ts), iv st], .fz 1 (ints l)] M (fun r M' => r = iv (slowF ts l) ∧ M' = M) := by
  refine AC.body (fn := Tryz.f129) Tryz.func129 rfl rfl (by simp [Tryz.f129]) fun hcl => ?_
  simp only [Tryz.f129]
  repeat refine AW.seq ?_
  refine AW.ops ?_
  simp (decide := true) only [ax, tabs, s0, Int.reduceToNat]
  repeat refine AW.seq ?_
  refine AW.ops ?_
  simp (decide := true) only [ax, tabs, s0, Int.reduceToNat]
  repeat refine AW.seq ?_
  refine AW.ops ?_
  simp (decide := true) only [ax, tabs, s0, Int.reduceToNat]
  refine AW.range l.length (fun i T M' => T 2 = .ptr M.length 0 2 ∧ T 5 = iv (slowF ts (l.take i)) ∧ T 8 = .fz 1 (ints l) ∧ M' = M ++ [.mem [.fz 1 (ints ts), iv st]]) (by omega) (by (first | (simp (decide := true) only [ax, tabs, s0, Int.reduceToNat]; done) | (simp (decide := true) only [ax, tabs, s0, Int.reduceToNat]; rfl) | rfl)) (by simp (decide := true) only [ax, tabs, s0, Int.reduceToNat, ints_length]) (by decide) (by decide) ⟨by (first | (simp (decide := true) only [ax, tabs, s0, Int.reduceToNat]; done) | (simp (decide := true) only [ax, tabs, s0, Int.reduceToNat]; rfl) | rfl), by (first | (simp (decide := true) only [ax, tabs, s0, Int.reduceToNat]; done) | (simp (decide := true) only [ax, tabs, s0, Int.reduceToNat]; rfl) | rfl), by (first | (simp (decide := true) only [ax, tabs, s0, Int.reduceToNat]; done) | (simp (decide := true) only [ax, tabs, s0, Int.reduceToNat]; rfl) | rfl), by (first | (simp (decide := true) only [ax, tabs, s0, Int.reduceToNat]; done) | (simp (decide := true) only [ax, tabs, s0, Int.reduceToNat]; rfl) | rfl)⟩ ?_ ?_ ?_
  · rintro i T M' r ⟨h0, h5, h8, hM⟩
    refine ⟨⟨?_, ?_, ?_, hM⟩, ⟨?_, ?_, ?_, hM⟩, ⟨?_, ?_, ?_, hM⟩⟩ <;> simp (decide := true) only [ax, tabs, s0, Int.reduceToNat, h0, h5, h8]
  · rintro i T M' hi ⟨h0, h5, h8, rfl⟩ hI hN
    have hg := ints_get (xs := l) hi
    obtain ⟨k1, k2⟩ := getD_all hk hi
    have hg2 := ints_get (xs := ts) (i := (l.getD i 0).toNat) (by omega)
    refine AW.block ?_
    repeat refine AW.seq ?_
    refine AW.ops ?_
    simp (decide := true) only [ax, tabs, s0, Int.reduceToNat, h0, h5, h8, hI, hN, ints_length, hi, hg]
    repeat refine AW.seq ?_
    refine AW.ops ?_
    simp (decide := true) only [ax, tabs, s0, Int.reduceToNat, h0, h5, h8, hI, hN, ints_length, hi, hg, k1, k2, hg2]
    refine AC.det (l1Most_ok _ _ _) ?_
    try (simp (decide := true) only [ax, tabs, s0, Int.reduceToNat])
    try (simp (decide := true) only [ax, tabs, s0, Int.reduceToNat, h0, h5, h8, hI, hN])
    unfold slowF
    rw [take_fold _ _ _ hi]
    by_cases h : ts.getD (l.getD i 0).toNat 0 > (l.take i).foldl (fun m k => if ts.getD k.toNat 0 > m then ts.getD k.toNat 0 else m) 0
    · rw [if_pos h, if_neg (by omega)]
    · rw [if_neg h]
      split
      · rfl
      · congr 1; omega
  · rintro T M' ⟨h0, h5, h8, rfl⟩
    try (simp (decide := true) only [ax, tabs, s0, Int.reduceToNat])
    repeat refine AW.seq ?_
    refine AW.ops ?_
    simp (decide := true) only [ax, tabs, s0, Int.reduceToNat, h5]
    rw [List.take_length]
    refine AW.ret (leftJ (.inr rfl) hcl (Nat.le_refl _) (by simp (decide := true) only [ax, tabs, s0, Int.reduceToNat]; rfl) ?_ rfl ⟨rfl, rfl⟩)
    simp (decide := true) only [ax, tabs, s0, Int.reduceToNat, h5]
theorem paSum_ok (ts : List Int) (L : List (List Int)) (st : Int) (M : List AO) (hl : L.length ≤ 1000) (hL : ∀ l ∈ L, l.length ≤ 2000000 ∧ ∀ k ∈ l, 0 ≤ k ∧ k < ts.length) (hts : ∀ t ∈ ts, 0 ≤ t ∧ t ≤ 1000000) :
    AC E 102 [.agg [.fz 1 (ints ts), iv st], .fz 1 (L.map fzi)] M (fun r M' => r = iv (timeF ts L) ∧ M' = M) := by
  refine AC.body (fn := Tryz.f102) Tryz.func102 rfl rfl (by simp [Tryz.f102]) fun hcl => ?_
  simp only [Tryz.f102]
  repeat refine AW.seq ?_
  refine AW.ops ?_
  simp (decide := true) only [ax, tabs, s0, Int.reduceToNat]
  repeat refine AW.seq ?_
  refine AW.ops ?_
  simp (decide := true) only [ax, tabs, s0, Int.reduceToNat]
  repeat refine AW.seq ?_
  refine AW.ops ?_
  simp (decide := true) only [ax, tabs, s0, Int.reduceToNat]
  refine AW.range L.length (fun i T M' => T 2 = .ptr M.length 0 2 ∧ T 5 = iv (timeF ts (L.take i)) ∧ T 8 = .fz 1 (L.map fzi) ∧ M' = M ++ [.mem [.fz 1 (ints ts), iv st]]) (by omega) (by (first | (simp (decide := true) only [ax, tabs, s0, Int.reduceToNat]; done) | (simp (decide := true) only [ax, tabs, s0, Int.reduceToNat]; rfl) | rfl)) (by simp (decide := true) only [ax, tabs, s0, Int.reduceToNat, List.length_map]) (by decide) (by decide) ⟨by (first | (simp (decide := true) only [ax, tabs, s0, Int.reduceToNat]; done) | (simp (decide := true) only [ax, tabs, s0, Int.reduceToNat]; rfl) | rfl), by (first | (simp (decide := true) only [ax, tabs, s0, Int.reduceToNat]; done) | (simp (decide := true) only [ax, tabs, s0, Int.reduceToNat]; rfl) | rfl), by (first | (simp (decide := true) only [ax, tabs, s0, Int.reduceToNat]; done) | (simp (decide := true) only [ax, tabs, s0, Int.reduceToNat]; rfl) | rfl), by (first | (simp (decide := true) only [ax, tabs, s0, Int.reduceToNat]; done) | (simp (decide := true) only [ax, tabs, s0, Int.reduceToNat]; rfl) | rfl)⟩ ?_ ?_ ?_
  · rintro i T M' r ⟨h0, h5, h8, hM⟩
    refine ⟨⟨?_, ?_, ?_, hM⟩, ⟨?_, ?_, ?_, hM⟩, ⟨?_, ?_, ?_, hM⟩⟩ <;> simp (decide := true) only [ax, tabs, s0, Int.reduceToNat, h0, h5, h8]
  · rintro i T M' hi ⟨h0, h5, h8, rfl⟩ hI hN
    have hg := fzi_get hi
    obtain ⟨k1, k2⟩ := hL L[i] (List.getElem_mem hi)
    obtain ⟨b1, b2⟩ := foldL_bound (f := slowF ts) (c := 1000000) (by omega) (slowF_bound ts 1000000 hts (by omega)) (L.take i) 0 (by omega)
    obtain ⟨b3, b4⟩ := slowF_bound ts 1000000 hts (by omega) L[i]
    have hlen : (L.take i).length ≤ 1000 := by simp; omega
    have e1 : IntKind.i64.wrap (timeF ts (L.take i) + slowF ts L[i]) = timeF ts (L.take (i + 1)) := by
      unfold timeF
      rw [wrap_in (by omega) (by omega), take_foldL _ _ _ hi]
    refine AW.block ?_
    repeat refine AW.seq ?_
    refine AW.ops ?_
    simp (decide := true) only [ax, tabs, s0, Int.reduceToNat, h0, h5, h8, hI, hN, List.length_map, hi, hg, fzi]
    repeat refine AW.seq ?_
    refine AW.ops ?_
    simp (decide := true) only [ax, tabs, s0, Int.reduceToNat, h0, h5, h8, hI, hN, List.length_map, hi]
    refine AC.det (paTime_ok ts L[i] st _ k1 k2) ?_
    try (simp (decide := true) only [ax, tabs, s0, Int.reduceToNat])
    try (simp (decide := true) only [ax, tabs, s0, Int.reduceToNat, e1, h0, h8, hI, hN])
  · rintro T M' ⟨h0, h5, h8, rfl⟩
    try (simp (decide := true) only [ax, tabs, s0, Int.reduceToNat])
    repeat refine AW.seq ?_
    refine AW.ops ?_
    simp (decide := true) only [ax, tabs, s0, Int.reduceToNat, h5]
    rw [List.take_length]
    refine AW.ret (leftJ (.inr rfl) hcl (Nat.le_refl _) (by simp (decide := true) only [ax, tabs, s0, Int.reduceToNat]; rfl) ?_ rfl ⟨rfl, rfl⟩)
    simp (decide := true) only [ax, tabs, s0, Int.reduceToNat, h5]
theorem prSum_ok (ts : List Int) (L : List (List Int)) (M : List AO) (hl : L.length ≤ 1000) (hL : ∀ l ∈ L, l.length ≤ 2000000 ∧ ∀ k ∈ l, 0 ≤ k ∧ k < ts.length) (hts : ∀ t ∈ ts, 0 ≤ t ∧ t ≤ 1000000) :
    AC E 85 [.fz 1 (ints ts), .fz 1 (L.map fzi)] M (fun r M' => r = iv (timeF ts L) ∧ M' = M) := by
  refine AC.body (fn := Tryz.f85) Tryz.func85 rfl rfl (by simp [Tryz.f85]) fun hcl => ?_
  simp only [Tryz.f85]
  repeat refine AW.seq ?_
  refine AW.ops ?_
  simp (decide := true) only [ax, tabs, s0, Int.reduceToNat]
  repeat refine AW.seq ?_
  refine AW.ops ?_
  simp (decide := true) only [ax, tabs, s0, Int.reduceToNat]
  refine AC.det (paSum_ok ts L 0 _ hl hL hts) ?_
  try (simp (decide := true) only [ax, tabs, s0, Int.reduceToNat])
  refine AW.ret (leftS (.inr rfl) hcl (Nat.le_refl _) (by simp (decide := true) only [ax, tabs, s0, Int.reduceToNat]; rfl) ?_ rfl ⟨rfl, rfl⟩)
  simp (decide := true) only [ax, tabs, s0, Int.reduceToNat]
theorem l1Own_row (xs : List Int) (M : List AO) (hl : xs.length ≤ 2000000) : AC E 50 [.fz 1 (ints xs)] M (fun r M' => r = .sl 1 M.length 0 xs.length xs.length ∧ M' = M ++ [.mem (ints xs)]) := by
  refine AC.body (fn := Tryz.f50) Tryz.func50 rfl rfl (by simp [Tryz.f50]) fun hcl => ?_
  simp only [Tryz.f50]
  have hb : xs.length * 8 ≤ 140737488355328 := by omega
  have h1 := ints_all xs
  repeat refine AW.seq ?_
  refine AW.ops ?_
  simp (decide := true) only [ax, tabs, s0, Int.reduceToNat]
  repeat refine AW.seq ?_
  refine AW.ops ?_
  simp (decide := true) only [ax, tabs, s0, Int.reduceToNat, ints_length, flat_ints, h1, hb]
  refine AW.ret (leftN (.inr rfl) (by simp) (by simp (decide := true) only [ax, tabs, s0, Int.reduceToNat]; rfl) ?_ (.sl _ _ _ _ _ (by simp)) ⟨rfl, rfl⟩)
  try (simp (decide := true) only [ax, tabs, s0, Int.reduceToNat])
/-- Two people in order. -/
def two (a b : Int) : List Int := if b < a then [b, a] else [a, b]
theorem prPair_row (a b : Int) (M : List AO) : AC E 82 [iv a, iv b] M (fun r M' => r = .sl 1 M.length 0 2 2 ∧ M' = M ++ [.mem (ints (two a b))]) := by
  refine AC.body (fn := Tryz.f82) Tryz.func82 rfl rfl (by simp [Tryz.f82]) fun hcl => ?_
  simp only [Tryz.f82]
  repeat refine AW.seq ?_
  refine AW.ops ?_
  simp (decide := true) only [ax, tabs, s0, Int.reduceToNat]
  repeat refine AW.seq ?_
  refine AW.ops ?_
  simp (decide := true) only [ax, tabs, s0, Int.reduceToNat]
  repeat refine AW.seq ?_
  refine AW.cond (decide (b < a)) (by simp (decide := true) only [ax, tabs, s0, Int.reduceToNat]) (fun h => ?_) (fun h => ?_)
  · have h : b < a := of_decide_eq_true h
    repeat refine AW.seq ?_
    refine AW.ops ?_
    simp (decide := true) only [ax, tabs, s0, Int.reduceToNat]
    refine AW.ret (leftN (.inr rfl) (by simp) (by simp (decide := true) only [ax, tabs, s0, Int.reduceToNat]; rfl) ?_ (.sl _ _ _ _ _ (by simp)) ⟨rfl, by rw [two, if_pos h]; rfl⟩)
    try (simp (decide := true) only [ax, tabs, s0, Int.reduceToNat])
  · have h : ¬ b < a := of_decide_eq_false h
    refine AW.skip ?_
    simp (decide := true) only [ax, tabs, s0, Int.reduceToNat]
    repeat refine AW.seq ?_
    refine AW.ops ?_
    simp (decide := true) only [ax, tabs, s0, Int.reduceToNat]
    refine AW.ret (leftN (.inr rfl) (by simp) (by simp (decide := true) only [ax, tabs, s0, Int.reduceToNat]; rfl) ?_ (.sl _ _ _ _ _ (by simp)) ⟨rfl, by rw [two, if_neg h]; rfl⟩)
    try (simp (decide := true) only [ax, tabs, s0, Int.reduceToNat])
end Go.Ax
