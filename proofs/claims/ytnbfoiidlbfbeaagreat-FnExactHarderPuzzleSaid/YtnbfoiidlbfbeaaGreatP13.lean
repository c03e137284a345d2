/- Both orders are one; the reference's times and what clues tell there. -/
import Derived.Test.YtnbfoiidlbfbeaaGreatP12
set_option linter.unusedVariables false
set_option linter.unusedSimpArgs false
namespace Go.Ax
open Go.Proofs

def posC (c : Int → Int → Bool) (x : Int) (A : List Int) : Nat → Nat
  | 0 => 0
  | k + 1 => if c x (A.getD k 0) = true then posC c x A k else k + 1
theorem posC_app (c : Int → Int → Bool) (x : Int) (A B : List Int) : ∀ k, k ≤ A.length → posC c x (A ++ B) k = posC c x A k
  | 0, _ => rfl
  | k + 1, h => by
    simp only [posC]
    rw [posC_app c x A B k (by omega)]
    have : (A ++ B).getD k 0 = A.getD k 0 := by rw [List.getD_eq_getElem?_getD, List.getD_eq_getElem?_getD, List.getElem?_append_left (by omega)]
    rw [this]
theorem posC_le (c : Int → Int → Bool) (x : Int) (A : List Int) : ∀ k, posC c x A k ≤ k
  | 0 => Nat.le_refl _
  | k + 1 => by
    simp only [posC]
    split
    · exact Nat.le_succ_of_le (posC_le c x A k)
    · exact Nat.le_refl _
theorem insJ_app (c : Int → Int → Bool) (x : Int) : ∀ (n : Nat) (A B : List Int), A.length = n → insJ c n (A ++ x :: B) = A.take (posC c x A n) ++ x :: A.drop (posC c x A n) ++ B := by
  intro n
  induction n with
  | zero =>
    intro A B hA
    obtain rfl : A = [] := List.eq_nil_of_length_eq_zero hA
    simp [insJ, posC]
  | succ n ih =>
    intro A B hA
    obtain ⟨A', a, rfl⟩ : ∃ A' a, A = A' ++ [a] := ⟨A.dropLast, A.getLast (by intro h; subst h; simp at hA), by rw [List.dropLast_concat_getLast]⟩
    have hA' : A'.length = n := by simpa using hA
    have e1 : (A' ++ [a] ++ x :: B).getD (n + 1) 0 = x := by rw [List.getD_eq_getElem?_getD, List.getElem?_append_right (by simp; omega)]; simp [hA']
    have e2 : (A' ++ [a] ++ x :: B).getD n 0 = a := by rw [List.getD_eq_getElem?_getD, List.append_assoc, List.getElem?_append_right (by omega)]; simp [hA']
    have e3 : (A' ++ [a]).getD n 0 = a := by rw [List.getD_eq_getElem?_getD, List.getElem?_append_right (by omega)]; simp [hA']
    simp only [insJ, e1, e2, posC, e3]
    split
    · have e4 : sw (A' ++ [a] ++ x :: B) (n + 1) = A' ++ x :: (a :: B) := by
        unfold sw
        rw [Nat.add_sub_cancel, e1, e2, List.append_assoc, List.set_append_right _ _ (by omega), List.set_append_right _ _ (by omega), show n + 1 - A'.length = 1 from by omega, show n - A'.length = 0 from by omega]
        rfl
      rw [e4, ih A' (a :: B) hA', posC_app _ _ _ _ _ (by omega)]
      have hp := posC_le c x A' n
      rw [List.take_append_of_le_length (by omega), List.drop_append_of_le_length (by omega)]
      simp
    · rw [List.take_of_length_le (by simp; omega), List.drop_of_length_le (by simp; omega)]
      simp
theorem upto_split {n k : Nat} (h : k < n) : (upto n).drop k = (k : Int) :: (upto n).drop (k + 1) := by
  have hl : k < (upto n).length := by rw [upto_length]; exact h
  rw [List.drop_eq_getElem_cons hl]
  congr 1
  simp [upto]
theorem cmpI_neg {x y : Int} : cmpI x y < 0 ↔ x < y := by unfold cmpI; split <;> (try split) <;> omega
theorem cmpI_zero {x y : Int} : cmpI x y = 0 ↔ x = y := by unfold cmpI; split <;> (try split) <;> omega
theorem paceI_lt {ts : List Int} {x y : Int} (h : y < x) : decide (paceI ts x y < 0) = decide (tm ts y > tm ts x) := by
  unfold paceI
  have e : (ts.getD x.toNat 0 = tm ts x) ∧ (ts.getD y.toNat 0 = tm ts y) := ⟨rfl, rfl⟩
  rw [e.1, e.2]
  split
  · rename_i h0
    rw [cmpI_zero] at h0
    rw [decide_eq_false (by rw [cmpI_neg]; omega), decide_eq_false (by omega)]
  · by_cases hh : tm ts x < tm ts y
    · rw [decide_eq_true (by rw [cmpI_neg]; exact hh), decide_eq_true hh]
    · rw [decide_eq_false (by rw [cmpI_neg]; exact hh), decide_eq_false hh]
theorem posC_posF {ts A : List Int} {x : Int} (h : ∀ y ∈ A, y < x) : ∀ k, k ≤ A.length → posC (fun x y => decide (paceI ts x y < 0)) x A k = posF ts (tm ts x) A k
  | 0, _ => rfl
  | k + 1, hk => by
    have hm : A.getD k 0 < x := by rw [List.getD_eq_getElem?_getD, List.getElem?_eq_getElem (by omega)]; exact h _ (List.getElem_mem _)
    simp only [posC, posF]
    rw [posC_posF h k (by omega)]
    have hd := paceI_lt (ts := ts) hm
    by_cases hh : tm ts (gi A k) > tm ts x
    · rw [if_pos hh, if_pos (by rw [hd]; exact decide_eq_true hh)]
    · rw [if_neg hh, if_neg (by rw [hd, decide_eq_true_eq]; exact hh)]
theorem insTo_ord (ts : List Int) (n : Nat) : ∀ k, k < n → insTo (fun x y => decide (paceI ts x y < 0)) k (upto n) = ordF ts (k + 1) ++ (upto n).drop (k + 1)
  | 0, h => by
    have : ordF ts 1 = [(0 : Int)] := by simp [ordF, ordStep, posF]
    rw [insTo, this]
    have := upto_split h
    simpa using this
  | k + 1, h => by
    have hol := ordF_length ts (k + 1)
    have hoa := ordF_all ts (k + 1)
    rw [insTo, insTo_ord ts n k (by omega), upto_split h, insJ_app _ _ _ _ _ hol, posC_posF (fun y hy => by have := hoa y hy; omega) _ (by omega)]
    conv => rhs; rw [ordF, ordStep, hol]
theorem ordF_pace (ts : List Int) : ordF ts ts.length = paceL ts := by
  unfold paceL
  rw [show (List.range ts.length).map (fun (i : Nat) => (i : Int)) = upto ts.length from rfl]
  rcases Nat.eq_zero_or_pos ts.length with h | h
  · rw [h]; rfl
  · have := insTo_ord ts ts.length (ts.length - 1) (by omega)
    rw [show ts.length - 1 + 1 = ts.length from by omega] at this
    rw [this, List.drop_of_length_le (by rw [upto_length]; omega), List.append_nil]
theorem prTrips_ok' (ts : List Int) (esc : Bool) (M : List AO) (h0 : 1 ≤ ts.length) (hl : ts.length ≤ 12) (hts : ∀ t ∈ ts, 0 ≤ t ∧ t ≤ 1000000) : AC E 41 [.fz 1 (ints ts), .bool esc] M
    (fun r M' => r = .tup [.fz 1 ((crossF ts esc).1.map fzi), .str (crossF ts esc).2.1, .bool (crossF ts esc).2.2] ∧ M' = M) := prTrips_ok ts esc M h0 hl hts (ordF_pace ts)
theorem prTime_ok (ts : List Int) (M : List AO) (h0 : 1 ≤ ts.length) (hl : ts.length ≤ 12) (hts : ∀ t ∈ ts, 0 ≤ t ∧ t ≤ 1000000) : AC E 49 [.fz 1 (ints ts)] M (fun r M' => r = iv (pairT ts false) ∧ M' = M) := by
  refine AC.body (fn := Tryz.f49) Tryz.func49 rfl rfl (by simp [Tryz.f49]) fun hcl => ?_
  simp only [Tryz.f49]
  have ⟨t1, t2⟩ := crossF_trips ts false h0
  try (simp (decide := true) only [ax, tabs, s0, Int.reduceToNat])
  repeat (first
    | refine AW.seq ?_
    | refine AW.blockS ?_
    | ((first | refine AW.skip ?_ | refine AW.exit ?_ | refine AW.opsN rfl ?_ | refine AW.ret ?_); try (simp (decide := true) only [ax, tabs, s0, Int.reduceToNat]))
    | (refine AW.condT ?_ ?_; (focus (simp (decide := true) only [ax, tabs, s0, Int.reduceToNat]; done)))
    | (refine AW.condF ?_ ?_; (focus (simp (decide := true) only [ax, tabs, s0, Int.reduceToNat]; done))))
  refine AC.det (prTrips_ok' ts false _ h0 hl hts) ?_
  try (simp (decide := true) only [ax, tabs, s0, Int.reduceToNat])
  try (simp (decide := true) only [ax, tabs, s0, Int.reduceToNat])
  repeat (first
    | refine AW.seq ?_
    | refine AW.blockS ?_
    | ((first | refine AW.skip ?_ | refine AW.exit ?_ | refine AW.opsN rfl ?_ | refine AW.ret ?_); try (simp (decide := true) only [ax, tabs, s0, Int.reduceToNat]))
    | (refine AW.condT ?_ ?_; (focus (simp (decide := true) only [ax, tabs, s0, Int.reduceToNat]; done)))
    | (refine AW.condF ?_ ?_; (focus (simp (decide := true) only [ax, tabs, s0, Int.reduceToNat]; done))))
  refine AC.det (prSum_ok ts _ _ (by omega) (fun l hl => ⟨by have := (t1 l hl).1; omega, (t1 l hl).2⟩) hts) ?_
  try (simp (decide := true) only [ax, tabs, s0, Int.reduceToNat])
  try (simp (decide := true) only [ax, tabs, s0, Int.reduceToNat])
  repeat (first
    | refine AW.seq ?_
    | refine AW.blockS ?_
    | ((first | refine AW.skip ?_ | refine AW.exit ?_ | refine AW.opsN rfl ?_ | refine AW.ret ?_); try (simp (decide := true) only [ax, tabs, s0, Int.reduceToNat]))
    | (refine AW.condT ?_ ?_; (focus (simp (decide := true) only [ax, tabs, s0, Int.reduceToNat]; done)))
    | (refine AW.condF ?_ ?_; (focus (simp (decide := true) only [ax, tabs, s0, Int.reduceToNat]; done))))
  first
    | refine leftJ (.inr rfl) hcl (Nat.le_refl _) (by simp (decide := true) only [ax, tabs, s0, Int.reduceToNat]; rfl) ?_ rfl ⟨rfl, rfl⟩
    | refine leftS (.inr rfl) hcl (Nat.le_refl _) (by simp (decide := true) only [ax, tabs, s0, Int.reduceToNat]; rfl) ?_ rfl ⟨rfl, rfl⟩
  simp (decide := true) only [ax, tabs, s0, Int.reduceToNat, pairT]
end Go.Ax
