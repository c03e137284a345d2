/- Chapter 2: times of two at once and of escorts; what clues tell. -/
import Derived.Test.YtnbfoiidlbfbeaaGreatP5
set_option linter.unusedVariables false
set_option linter.unusedSimpArgs false
namespace Go.Ax
open Go.Proofs

/-- Trips are of at most two people that there are. -/
def Trips (n : Nat) (L : List (List Int)) : Prop := ∀ l ∈ L, l.length ≤ 2 ∧ ∀ k ∈ l, 0 ≤ k ∧ k < n
theorem Trips.add {n : Nat} {L : List (List Int)} (h : Trips n L) {l : List Int} (h1 : 1 ≤ l.length ∧ l.length ≤ 2) (h2 : ∀ k ∈ l, 0 ≤ k ∧ k < n) : Trips n (L ++ [srt l]) := by
  intro x hx
  rcases List.mem_append.1 hx with hx | hx
  · exact h x hx
  · simp at hx; subst hx
    refine ⟨by rw [srt_length]; exact h1.2, ?_⟩
    unfold srt
    exact insTo_all _ _ _ h2 (by omega)
theorem one_in {n : Nat} {a : Int} (h : 0 ≤ a ∧ a < n) : ∀ k ∈ [a], 0 ≤ k ∧ k < n := by intro k hk; simp at hk; subst hk; exact h
theorem two_in {n : Nat} {a b : Int} (h : 0 ≤ a ∧ a < n) (g : 0 ≤ b ∧ b < n) : ∀ k ∈ [a, b], 0 ≤ k ∧ k < n := by
  intro k hk; simp at hk; rcases hk with rfl | rfl
  · exact h
  · exact g
theorem crossF_trips (ts : List Int) (esc : Bool) (h0 : 1 ≤ ts.length) : Trips ts.length (crossF ts esc).1 ∧ (crossF ts esc).1.length ≤ 4 * ts.length + 3 := by
  have hol := paceL_length ts
  have hob : ∀ i, i < ts.length → 0 ≤ gi (paceL ts) i ∧ gi (paceL ts) i < ts.length := fun i hi => getD_all (paceL_all ts) (by omega)
  have hE := crossF_eq ts esc
  generalize paceL ts = od at hol hob hE
  have key : ∀ (f lf : Nat) (s : CrS), 1 ≤ lf → lf ≤ ts.length → Trips ts.length s.1 → 1 ≤ (rounds ts od esc f lf s).1 ∧ (rounds ts od esc f lf s).1 ≤ ts.length ∧ Trips ts.length (rounds ts od esc f lf s).2.1 ∧ (rounds ts od esc f lf s).2.1.length ≤ s.1.length + 4 * f := by
    intro f
    induction f with
    | zero => intro lf s h1 h2 h3; exact ⟨h1, h2, h3, by simp [rounds]⟩
    | succ f ih =>
      intro lf s h1 h2 h3
      simp only [rounds]
      split
      · rename_i h4
        have hr : Trips ts.length (round1 ts od esc lf s).1 ∧ (round1 ts od esc lf s).1.length = s.1.length + 4 := by
          have a := hob 0 (by omega)
          have b := hob 1 (by omega)
          have y := hob (lf - 2) (by omega)
          have z := hob (lf - 1) (by omega)
          simp only [round1]
          split
          · exact ⟨(((h3.add (by simp) (two_in a b)).add (by simp) (one_in a)).add (by simp) (two_in y z)).add (by simp) (one_in b), by simp⟩
          · exact ⟨(((h3.add (by simp) (two_in a z)).add (by simp) (one_in a)).add (by simp) (two_in a y)).add (by simp) (one_in a), by simp⟩
        obtain ⟨k1, k2, k3, k4⟩ := ih (lf - 2) (round1 ts od esc lf s) (by omega) (by omega) hr.1
        exact ⟨k1, k2, k3, by omega⟩
      · exact ⟨h1, h2, h3, by show s.1.length ≤ _; omega⟩
  obtain ⟨k1, k2, k3, k4⟩ := key od.length od.length ([], ByteArray.empty, false) (by omega) (by omega) (fun x hx => by cases hx)
  generalize rounds ts od esc od.length od.length ([], ByteArray.empty, false) = p at k1 k2 k3 k4 hE
  obtain ⟨lf, s⟩ := p
  rw [hE lf s rfl]
  simp only at k1 k2 k3 k4
  have k4 : s.1.length ≤ 4 * od.length := by simpa using k4
  rw [hol] at k4
  have a := hob 0 (by omega)
  unfold last
  split
  · have b := hob 1 (by omega)
    have y := hob 2 (by omega)
    exact ⟨((k3.add (by simp) (two_in a b)).add (by simp) (one_in a)).add (by simp) (two_in a y), by simp; omega⟩
  · split
    · have b := hob 1 (by omega)
      exact ⟨k3.add (by simp) (two_in a b), by simp; omega⟩
    · exact ⟨k3.add (by simp) (one_in a), by simp; omega⟩

/-- What impl's pairTime and escortTime tell. -/
def pairT (ts : List Int) (esc : Bool) : Int := timeF ts (crossF ts esc).1
theorem pairTime_ok (ts : List Int) (M : List AO) (h0 : 1 ≤ ts.length) (hl : ts.length ≤ 12) (hts : ∀ t ∈ ts, 0 ≤ t ∧ t ≤ 1000000) : AC E 42 [.fz 1 (ints ts)] M (fun r M' => r = iv (pairT ts false) ∧ M' = M) := by
  refine AC.body (fn := Tryz.f42) Tryz.func42 rfl rfl (by simp [Tryz.f42]) fun hcl => ?_
  simp only [Tryz.f42]
  repeat refine AW.seq ?_
  refine AW.ops ?_
  simp (decide := true) only [ax, tabs, s0, Int.reduceToNat]
  repeat refine AW.seq ?_
  refine AW.ops ?_
  simp (decide := true) only [ax, tabs, s0, Int.reduceToNat]
  refine AC.det (cross_ok ts false M h0 hl hts) ?_
  try (simp (decide := true) only [ax, tabs, s0, Int.reduceToNat])
  obtain ⟨h1, h2⟩ := crossF_trips ts false h0
  try (simp (decide := true) only [ax, tabs, s0, Int.reduceToNat])
  refine AC.det (time_ok ts _ _ _ M (by omega) (fun l hl => ⟨by have := (h1 l hl).1; omega, (h1 l hl).2⟩) hts) ?_
  try (simp (decide := true) only [ax, tabs, s0, Int.reduceToNat])
  try (simp (decide := true) only [ax, tabs, s0, Int.reduceToNat])
  refine AW.ret (leftS (.inr rfl) hcl (Nat.le_refl _) (by simp (decide := true) only [ax, tabs, s0, Int.reduceToNat]; rfl) ?_ rfl ⟨rfl, rfl⟩)
  simp (decide := true) only [ax, tabs, s0, Int.reduceToNat, pairT]
theorem escortTime_ok (ts : List Int) (M : List AO) (h0 : 1 ≤ ts.length) (hl : ts.length ≤ 12) (hts : ∀ t ∈ ts, 0 ≤ t ∧ t ≤ 1000000) : AC E 148 [.fz 1 (ints ts)] M (fun r M' => r = iv (pairT ts true) ∧ M' = M) := by
  refine AC.body (fn := Tryz.f148) Tryz.func148 rfl rfl (by simp [Tryz.f148]) fun hcl => ?_
  simp only [Tryz.f148]
  repeat refine AW.seq ?_
  refine AW.ops ?_
  simp (decide := true) only [ax, tabs, s0, Int.reduceToNat]
  repeat refine AW.seq ?_
  refine AW.ops ?_
  simp (decide := true) only [ax, tabs, s0, Int.reduceToNat]
  refine AC.det (cross_ok ts true M h0 hl hts) ?_
  try (simp (decide := true) only [ax, tabs, s0, Int.reduceToNat])
  obtain ⟨h1, h2⟩ := crossF_trips ts true h0
  try (simp (decide := true) only [ax, tabs, s0, Int.reduceToNat])
  refine AC.det (time_ok ts _ _ _ M (by omega) (fun l hl => ⟨by have := (h1 l hl).1; omega, (h1 l hl).2⟩) hts) ?_
  try (simp (decide := true) only [ax, tabs, s0, Int.reduceToNat])
  try (simp (decide := true) only [ax, tabs, s0, Int.reduceToNat])
  refine AW.ret (leftS (.inr rfl) hcl (Nat.le_refl _) (by simp (decide := true) only [ax, tabs, s0, Int.reduceToNat]; rfl) ?_ rfl ⟨rfl, rfl⟩)
  simp (decide := true) only [ax, tabs, s0, Int.reduceToNat, pairT]
end Go.Ax
