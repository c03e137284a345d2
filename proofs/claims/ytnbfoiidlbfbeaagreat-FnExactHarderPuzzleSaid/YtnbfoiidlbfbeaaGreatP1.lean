/- Chapter 1's leaves and what the library does for them. -/
import Derived.Test.YtnbfoiidlbfbeaaGreatAxTab
set_option linter.unusedVariables false
set_option linter.unusedSimpArgs false
namespace Go.Ax
open Go.Proofs

theorem in_ok (x lo hi : Int) (M : List AO) : AC E 51 [.int .i64 x, .int .i64 lo, .int .i64 hi] M (fun r M' => r = .bool (decide (lo ≤ x) && decide (x ≤ hi)) ∧ M' = M) := by
  refine AC.body (fn := Tryz.f51) Tryz.func51 rfl rfl (by simp [Tryz.f51]) fun hcl => ?_
  simp only [Tryz.f51]
  repeat refine AW.seq ?_
  refine AW.ops ?_
  simp (decide := true) only [ax, tabs, s0, Int.reduceToNat]
  repeat refine AW.seq ?_
  refine AW.ops ?_
  simp (decide := true) only [ax, tabs, s0, Int.reduceToNat]
  cases h : decide (lo ≤ x)
  · try (simp (decide := true) only [ax, tabs, s0, Int.reduceToNat])
    refine AW.ret (leftS (.inr rfl) hcl (Nat.le_refl _) (by simp (decide := true) only [ax, tabs, s0, Int.reduceToNat]; rfl) ?_ rfl ⟨rfl, rfl⟩)
    simp (decide := true) only [ax, tabs, s0, Int.reduceToNat, Bool.false_and]
  · try (simp (decide := true) only [ax, tabs, s0, Int.reduceToNat])
    refine AW.ret (leftS (.inr rfl) hcl (Nat.le_refl _) (by simp (decide := true) only [ax, tabs, s0, Int.reduceToNat]; rfl) ?_ rfl ⟨rfl, rfl⟩)
    simp (decide := true) only [ax, tabs, s0, Int.reduceToNat]
theorem l1In_ok (x lo hi : Int) (M : List AO) : AC E 48 [.int .i64 x, .int .i64 lo, .int .i64 hi] M (fun r M' => r = .bool (decide (lo ≤ x) && decide (x ≤ hi)) ∧ M' = M) := by
  refine AC.body (fn := Tryz.f48) Tryz.func48 rfl rfl (by simp [Tryz.f48]) fun hcl => ?_
  simp only [Tryz.f48]
  repeat refine AW.seq ?_
  refine AW.ops ?_
  simp (decide := true) only [ax, tabs, s0, Int.reduceToNat]
  repeat refine AW.seq ?_
  refine AW.ops ?_
  simp (decide := true) only [ax, tabs, s0, Int.reduceToNat]
  cases h : decide (lo ≤ x)
  · try (simp (decide := true) only [ax, tabs, s0, Int.reduceToNat])
    refine AW.ret (leftS (.inr rfl) hcl (Nat.le_refl _) (by simp (decide := true) only [ax, tabs, s0, Int.reduceToNat]; rfl) ?_ rfl ⟨rfl, rfl⟩)
    simp (decide := true) only [ax, tabs, s0, Int.reduceToNat, Bool.false_and]
  · try (simp (decide := true) only [ax, tabs, s0, Int.reduceToNat])
    refine AW.ret (leftS (.inr rfl) hcl (Nat.le_refl _) (by simp (decide := true) only [ax, tabs, s0, Int.reduceToNat]; rfl) ?_ rfl ⟨rfl, rfl⟩)
    simp (decide := true) only [ax, tabs, s0, Int.reduceToNat]
theorem cmpNaN_ok (x : Int) (M : List AO) : AC E 99 [.int .i64 x] M (fun r M' => r = .bool false ∧ M' = M) := by
  refine AC.body (fn := Tryz.f99) Tryz.func99 rfl rfl (by simp [Tryz.f99]) fun hcl => ?_
  simp only [Tryz.f99]
  repeat refine AW.seq ?_
  refine AW.ops ?_
  simp (decide := true) only [ax, tabs, s0, Int.reduceToNat]
  repeat refine AW.seq ?_
  refine AW.ops ?_
  simp (decide := true) only [ax, tabs, s0, Int.reduceToNat]
  refine AW.ret (leftS (.inr rfl) hcl (Nat.le_refl _) (by simp (decide := true) only [ax, tabs, s0, Int.reduceToNat]; rfl) ?_ rfl ⟨rfl, rfl⟩)
  simp (decide := true) only [ax, tabs, s0, Int.reduceToNat, ne_eq, not_true_eq_false, decide_false]
/-- What cmp.Compare tells. -/
def cmpI (x y : Int) : Int := if x < y then -1 else if y < x then 1 else 0
theorem cmpCompare_ok (x y : Int) (M : List AO) : AC E 78 [.int .i64 x, .int .i64 y] M (fun r M' => r = .int .i64 (cmpI x y) ∧ M' = M) := by
  refine AC.body (fn := Tryz.f78) Tryz.func78 rfl rfl (by simp [Tryz.f78]) fun hcl => ?_
  simp only [Tryz.f78]
  repeat refine AW.seq ?_
  refine AW.ops ?_
  simp (decide := true) only [ax, tabs, s0, Int.reduceToNat]
  repeat refine AW.seq ?_
  refine AW.ops ?_
  simp (decide := true) only [ax, tabs, s0, Int.reduceToNat]
  refine AC.det (cmpNaN_ok x M) ?_
  try (simp (decide := true) only [ax, tabs, s0, Int.reduceToNat])
  repeat refine AW.seq ?_
  refine AW.ops ?_
  simp (decide := true) only [ax, tabs, s0, Int.reduceToNat]
  refine AC.det (cmpNaN_ok y M) ?_
  try (simp (decide := true) only [ax, tabs, s0, Int.reduceToNat])
  repeat refine AW.seq ?_
  refine AW.ops ?_
  simp (decide := true) only [ax, tabs, s0, Int.reduceToNat]
  repeat refine AW.seq ?_
  refine AW.condF (by simp (decide := true) only [ax, tabs, s0, Int.reduceToNat]) ?_
  refine AW.skip ?_
  simp (decide := true) only [ax, tabs, s0, Int.reduceToNat]
  repeat refine AW.seq ?_
  refine AW.ops ?_
  simp (decide := true) only [ax, tabs, s0, Int.reduceToNat]
  repeat refine AW.seq ?_
  refine AW.condF (by simp (decide := true) only [ax, tabs, s0, Int.reduceToNat]) ?_
  refine AW.skip ?_
  simp (decide := true) only [ax, tabs, s0, Int.reduceToNat]
  repeat refine AW.seq ?_
  refine AW.ops ?_
  simp (decide := true) only [ax, tabs, s0, Int.reduceToNat]
  repeat refine AW.seq ?_
  refine AW.cond (decide (x < y)) (by simp (decide := true) only [ax, tabs, s0, Int.reduceToNat]) (fun h => ?_) (fun h => ?_)
  · have hx : x < y := of_decide_eq_true h
    repeat refine AW.seq ?_
    refine AW.ops ?_
    simp (decide := true) only [ax, tabs, s0, Int.reduceToNat]
    refine AW.ret (leftS (.inr rfl) hcl (Nat.le_refl _) (by simp (decide := true) only [ax, tabs, s0, Int.reduceToNat]; rfl) ?_ rfl ⟨rfl, rfl⟩)
    simp (decide := true) only [ax, tabs, s0, Int.reduceToNat, cmpI, if_pos hx]
  · have hx : ¬ x < y := of_decide_eq_false h
    refine AW.skip ?_
    simp (decide := true) only [ax, tabs, s0, Int.reduceToNat]
    repeat refine AW.seq ?_
    refine AW.ops ?_
    simp (decide := true) only [ax, tabs, s0, Int.reduceToNat]
    repeat refine AW.seq ?_
    refine AW.cond (decide (y < x)) (by simp (decide := true) only [ax, tabs, s0, Int.reduceToNat]) (fun h => ?_) (fun h => ?_)
    · have h2 : y < x := of_decide_eq_true h
      repeat refine AW.seq ?_
      refine AW.ops ?_
      simp (decide := true) only [ax, tabs, s0, Int.reduceToNat]
      refine AW.ret (leftS (.inr rfl) hcl (Nat.le_refl _) (by simp (decide := true) only [ax, tabs, s0, Int.reduceToNat]; rfl) ?_ rfl ⟨rfl, rfl⟩)
      simp (decide := true) only [ax, tabs, s0, Int.reduceToNat, cmpI, if_neg hx, if_pos h2]
    · have h2 : ¬ y < x := of_decide_eq_false h
      refine AW.skip ?_
      simp (decide := true) only [ax, tabs, s0, Int.reduceToNat]
      repeat refine AW.seq ?_
      refine AW.ops ?_
      simp (decide := true) only [ax, tabs, s0, Int.reduceToNat]
      refine AW.ret (leftS (.inr rfl) hcl (Nat.le_refl _) (by simp (decide := true) only [ax, tabs, s0, Int.reduceToNat]; rfl) ?_ rfl ⟨rfl, rfl⟩)
      simp (decide := true) only [ax, tabs, s0, Int.reduceToNat, cmpI, if_neg hx, if_neg h2]

theorem cmpLess_ok (x y : Int) (M : List AO) : AC E 126 [.int .i64 x, .int .i64 y] M (fun r M' => r = .bool (decide (x < y)) ∧ M' = M) := by
  refine AC.body (fn := Tryz.f126) Tryz.func126 rfl rfl (by simp [Tryz.f126]) fun hcl => ?_
  simp only [Tryz.f126]
  repeat refine AW.seq ?_
  refine AW.ops ?_
  simp (decide := true) only [ax, tabs, s0, Int.reduceToNat]
  repeat refine AW.seq ?_
  refine AW.ops ?_
  simp (decide := true) only [ax, tabs, s0, Int.reduceToNat]
  refine AC.det (cmpNaN_ok x M) ?_
  try (simp (decide := true) only [ax, tabs, s0, Int.reduceToNat])
  try (simp (decide := true) only [ax, tabs, s0, Int.reduceToNat])
  refine AW.ret (leftS (.inr rfl) hcl (Nat.le_refl _) (by simp (decide := true) only [ax, tabs, s0, Int.reduceToNat]; rfl) ?_ rfl ⟨rfl, rfl⟩)
  simp (decide := true) only [ax, tabs, s0, Int.reduceToNat, Bool.false_and, Bool.false_or]
theorem cmpOr2_ok (x y : Int) (M : List AO) : AC E 77 [.fz 1 [.int .i64 x, .int .i64 y]] M (fun r M' => r = .int .i64 (if x = 0 then y else x) ∧ M' = M) := by
  refine AC.body (fn := Tryz.f77) Tryz.func77 rfl rfl (by simp [Tryz.f77]) fun hcl => ?_
  simp only [Tryz.f77]
  repeat refine AW.seq ?_
  refine AW.ops ?_
  simp (decide := true) only [ax, tabs, s0, Int.reduceToNat]
  repeat refine AW.seq ?_
  refine AW.ops ?_
  simp (decide := true) only [ax, tabs, s0, Int.reduceToNat]
  repeat refine AW.seq ?_
  refine AW.ops ?_
  simp (decide := true) only [ax, tabs, s0, Int.reduceToNat]
  refine (AW.range 2 (fun i T M' => T 3 = .int .i64 0 ∧ T 6 = .fz 1 [.int .i64 x, .int .i64 y] ∧ M' = M ∧ (1 ≤ i → x = 0) ∧ (2 ≤ i → y = 0)) (by omega) (by simp (decide := true) only [ax, tabs, s0, Int.reduceToNat]) (by simp (decide := true) only [ax, tabs, s0, Int.reduceToNat]) (by decide) (by decide) ⟨by simp (decide := true) only [ax, tabs, s0, Int.reduceToNat], by simp (decide := true) only [ax, tabs, s0, Int.reduceToNat], rfl, fun h => by omega, fun h => by omega⟩ ?_ ?_ ?_)
  · rintro i T M' r ⟨h3, h6, hM, hx, hy⟩
    refine ⟨⟨?_, ?_, hM, hx, hy⟩, ⟨?_, ?_, hM, hx, hy⟩, ⟨?_, ?_, hM, hx, hy⟩⟩ <;> simp (decide := true) only [ax, tabs, s0, Int.reduceToNat, h3, h6]
  · rintro i T M' hi ⟨h3, h6, rfl, hx, hy⟩ hI hN
    refine AW.block ?_
    obtain rfl | rfl : i = 0 ∨ i = 1 := by omega
    · repeat refine AW.seq ?_
      refine AW.ops ?_
      simp (decide := true) only [ax, tabs, s0, Int.reduceToNat, h3, h6, hI, hN]
      repeat refine AW.seq ?_
      refine AW.ops ?_
      simp (decide := true) only [ax, tabs, s0, Int.reduceToNat, h3, h6, hI, hN]
      repeat refine AW.seq ?_
      refine AW.cond (decide (x ≠ 0)) (by simp (decide := true) only [ax, tabs, s0, Int.reduceToNat]) (fun h => ?_) (fun h => ?_)
      · repeat refine AW.seq ?_
        refine AW.ops ?_
        simp (decide := true) only [ax, tabs, s0, Int.reduceToNat, h3, h6, hI, hN]
        refine AW.ret ?_
        try (simp (decide := true) only [ax, tabs, s0, Int.reduceToNat])
        refine leftS (.inr rfl) hcl (Nat.le_refl _) (by simp (decide := true) only [ax, tabs, s0, Int.reduceToNat]; rfl) ?_ rfl ⟨rfl, rfl⟩
        have h : x ≠ 0 := of_decide_eq_true h
        try (simp (decide := true) only [ax, tabs, s0, Int.reduceToNat, if_neg h])
      · have h : x = 0 := by simpa using h
        refine AW.skip ?_
        try (simp (decide := true) only [ax, tabs, s0, Int.reduceToNat, h3, h6, hI, hN])
        exact ⟨fun _ => h, fun h2 => h2.elim⟩
    · have hx := hx (by omega)
      repeat refine AW.seq ?_
      refine AW.ops ?_
      simp (decide := true) only [ax, tabs, s0, Int.reduceToNat, h3, h6, hI, hN]
      repeat refine AW.seq ?_
      refine AW.ops ?_
      simp (decide := true) only [ax, tabs, s0, Int.reduceToNat, h3, h6, hI, hN]
      repeat refine AW.seq ?_
      refine AW.cond (decide (y ≠ 0)) (by simp (decide := true) only [ax, tabs, s0, Int.reduceToNat]) (fun h => ?_) (fun h => ?_)
      · repeat refine AW.seq ?_
        refine AW.ops ?_
        simp (decide := true) only [ax, tabs, s0, Int.reduceToNat, h3, h6, hI, hN]
        refine AW.ret ?_
        try (simp (decide := true) only [ax, tabs, s0, Int.reduceToNat])
        refine leftS (.inr rfl) hcl (Nat.le_refl _) (by simp (decide := true) only [ax, tabs, s0, Int.reduceToNat]; rfl) ?_ rfl ⟨rfl, rfl⟩
        try (simp (decide := true) only [ax, tabs, s0, Int.reduceToNat, if_pos hx])
      · have h : y = 0 := by simpa using h
        refine AW.skip ?_
        try (simp (decide := true) only [ax, tabs, s0, Int.reduceToNat, h3, h6, hI, hN])
        exact ⟨fun _ => hx, fun _ => h⟩
  · rintro T M' ⟨h3, h6, rfl, hx, hy⟩
    have hx := hx (by omega)
    have hy := hy (by omega)
    try (simp (decide := true) only [ax, tabs, s0, Int.reduceToNat])
    repeat refine AW.seq ?_
    refine AW.ops ?_
    simp (decide := true) only [ax, tabs, s0, Int.reduceToNat, h3, h6]
    refine AW.ret (leftS (.inr rfl) hcl (Nat.le_refl _) (by simp (decide := true) only [ax, tabs, s0, Int.reduceToNat]; rfl) ?_ rfl ⟨rfl, rfl⟩)
    try (simp (decide := true) only [ax, tabs, s0, Int.reduceToNat, if_pos hx, hy])

/-! ### Lists of numbers -/
abbrev iv (n : Int) : AV := .int .i64 n
def ints (xs : List Int) : List AV := xs.map iv
theorem ints_length (xs : List Int) : (ints xs).length = xs.length := by simp [ints]
theorem ints_get {xs : List Int} {i : Nat} (h : i < xs.length) : (ints xs).getD i .any = iv (xs.getD i 0) := by
  simp [ints, List.getD_eq_getElem?_getD, List.getElem?_eq_getElem h]
theorem flat_ints (xs : List Int) : flat (ints xs) = ints xs := by
  induction xs with
  | nil => rfl
  | cons x xs ih => show [iv x] ++ flat (ints xs) = _; rw [ih]; rfl
theorem ints_all (xs : List Int) : (ints xs).all AV.one = true := by simp [ints, AV.one]
theorem ints_set (xs : List Int) (j : Nat) (v : Int) : (ints xs).set j (iv v) = ints (xs.set j v) := by simp [ints, List.map_set]
theorem ints_drop {xs : List Int} {j : Nat} (h : j < xs.length) : ((ints xs).drop j)[0]? = some (iv (xs.getD j 0)) := by
  simp [ints, List.getElem?_eq_getElem h, List.getD_eq_getElem?_getD]
theorem ints_put {xs : List Int} {j : Nat} (h : j < xs.length) (v : Int) : putA' (ints xs) j [iv v] = ints (xs.set j v) := by
  rw [putA'_one (by rw [ints_length]; exact h), ints_set]

theorem ClM.set {M : List AO} {o : Nat} {cs0 cs : List AV} (h : ClM (M.set o (.mem cs0))) (hs : ∀ (i : Nat) (a : AV), cs[i]? = some a → Cl M.length a) : ClM (M.set o (.mem cs)) := by
  intro o' cs' ho i a hi
  by_cases e : o = o'
  · subst e
    have hlt : o < M.length := by have := (List.getElem?_eq_some_iff.1 ho).1; simpa using this
    rw [List.getElem?_set_self hlt] at ho
    injection ho with ho; injection ho with ho
    subst ho
    rw [List.length_set]; exact hs i a hi
  · rw [List.getElem?_set_ne e] at ho
    have := h o' cs' (by rw [List.getElem?_set_ne e]; exact ho) i a hi
    rwa [List.length_set] at this ⊢
theorem ClM.set_ints {M : List AO} {o : Nat} {cs0 : List AV} (h : ClM (M.set o (.mem cs0))) (xs : List Int) : ClM (M.set o (.mem (ints xs))) :=
  h.set fun i a hi => by
    simp only [ints, List.getElem?_map] at hi
    obtain ⟨x, _, rfl⟩ := Option.map_eq_some_iff.1 hi
    exact .int _ _

/-! ### Insertion sort -/
def sw (xs : List Int) (j : Nat) : List Int := (xs.set j (xs.getD (j - 1) 0)).set (j - 1) (xs.getD j 0)
theorem sw_length (xs : List Int) (j : Nat) : (sw xs j).length = xs.length := by simp [sw]
def insJ (c : Int → Int → Bool) : Nat → List Int → List Int
  | 0, xs => xs
  | j + 1, xs => if c (xs.getD (j + 1) 0) (xs.getD j 0) = true then insJ c j (sw xs (j + 1)) else xs
def insTo (c : Int → Int → Bool) : Nat → List Int → List Int
  | 0, xs => xs
  | i + 1, xs => insJ c (i + 1) (insTo c i xs)
theorem insJ_length (c : Int → Int → Bool) : ∀ j xs, (insJ c j xs).length = xs.length
  | 0, _ => rfl
  | j + 1, xs => by
    simp only [insJ]
    split
    · rw [insJ_length c j, sw_length]
    · rfl
theorem insTo_length (c : Int → Int → Bool) : ∀ j xs, (insTo c j xs).length = xs.length
  | 0, _ => rfl
  | j + 1, xs => by simp only [insTo]; rw [insJ_length, insTo_length c j]

theorem getD_all {P : Int → Prop} {ys : List Int} (h : ∀ z ∈ ys, P z) {j : Nat} (hj : j < ys.length) : P (ys.getD j 0) := by
  rw [List.getD_eq_getElem?_getD, List.getElem?_eq_getElem hj]; exact h _ (List.getElem_mem hj)
theorem sw_all {P : Int → Prop} {ys : List Int} (h : ∀ z ∈ ys, P z) {j : Nat} (hj : j < ys.length) : ∀ z ∈ sw ys j, P z := by
  intro z hz
  unfold sw at hz
  rcases List.mem_or_eq_of_mem_set hz with hz | rfl
  · rcases List.mem_or_eq_of_mem_set hz with hz | rfl
    · exact h z hz
    · exact getD_all h (by omega)
  · exact getD_all h hj
theorem insJ_all {P : Int → Prop} (c : Int → Int → Bool) : ∀ (j : Nat) (ys : List Int), (∀ z ∈ ys, P z) → j < ys.length → ∀ z ∈ insJ c j ys, P z
  | 0, ys, h, _ => h
  | j + 1, ys, h, hj => by
    simp only [insJ]
    split
    · exact insJ_all c j _ (sw_all h hj) (by rw [sw_length]; omega)
    · exact h
theorem insTo_all {P : Int → Prop} (c : Int → Int → Bool) : ∀ (j : Nat) (ys : List Int), (∀ z ∈ ys, P z) → (j < ys.length ∨ j = 0) → ∀ z ∈ insTo c j ys, P z
  | 0, ys, h, _ => h
  | j + 1, ys, h, hj => by
    simp only [insTo]
    exact insJ_all c _ _ (insTo_all c j ys h (by omega)) (by rw [insTo_length]; omega)

theorem insCmp_ok (xs : List Int) (g : FuncId) (caps : List AV) (c : Int → Int → Int) (o : Nat) (M : List AO) (hl : xs.length ≤ 4611686018427387904) (ho : o < M.length)
    (P : Int → Prop) (hP : ∀ x ∈ xs, P x) (hc : ∀ x y ys, P x → P y → AC E g (iv x :: iv y :: caps) (M.set o (.mem (ints ys))) (fun r M' => r = iv (c x y) ∧ M' = M.set o (.mem (ints ys)))) :
    AC E 110 [.sl 1 o 0 xs.length xs.length, iv 0, iv xs.length, .fn g caps] (M.set o (.mem (ints xs))) (fun r M' => r = .tup [] ∧ M' = M.set o (.mem (ints (insTo (fun x y => decide (c x y < 0)) (xs.length - 1) xs)))) := by
  refine AC.body (fn := Tryz.f110) Tryz.func110 rfl rfl (by simp [Tryz.f110]) fun hcl => ?_
  simp only [Tryz.f110]
  have hM : ∀ a, (M.set o a)[o]? = some a := fun a => List.getElem?_set_self ho
  repeat refine AW.seq ?_
  refine AW.ops ?_
  simp (decide := true) only [ax, tabs, s0, Int.reduceToNat]
  refine AW.block (AW.loop (fun d T M' => ∃ i : Nat, 1 ≤ i ∧ (i ≤ xs.length ∨ i = 1) ∧ i + d = xs.length + 1 ∧ T 0 = .sl 1 o 0 xs.length xs.length ∧ T 1 = iv 0 ∧ T 2 = iv xs.length ∧ T 3 = .fn g caps ∧ T 8 = iv i ∧ M' = M.set o (.mem (ints (insTo (fun x y => decide (c x y < 0)) (i - 1) xs)))) xs.length ?_ ?_)
  · refine ⟨1, by omega, by omega, by omega, by simp (decide := true) only [ax, tabs, s0, Int.reduceToNat], by simp (decide := true) only [ax, tabs, s0, Int.reduceToNat], by simp (decide := true) only [ax, tabs, s0, Int.reduceToNat], by simp (decide := true) only [ax, tabs, s0, Int.reduceToNat], ?_, rfl⟩
    try (simp (decide := true) only [ax, tabs, s0, Int.reduceToNat])
    rw [wrap_in (by omega) (by omega)]; rfl
  · rintro d T M' ⟨i, hi1, hi2, hid, t0, t1, t2, t3, t8, rfl⟩
    repeat refine AW.seq ?_
    refine AW.ops ?_
    simp (decide := true) only [ax, tabs, s0, Int.reduceToNat, t0, t1, t2, t3, t8]
    repeat refine AW.seq ?_
    refine AW.cond (decide ((i : Int) < (xs.length : Int))) (by simp (decide := true) only [ax, tabs, s0, Int.reduceToNat]) (fun h => ?_) (fun h => ?_)
    · have hlt : i < xs.length := by have := of_decide_eq_true h; omega
      refine AW.skip ?_
      simp (decide := true) only [ax, tabs, s0, Int.reduceToNat]
      refine AW.seq (AW.block ?_)
      repeat refine AW.seq ?_
      refine AW.ops ?_
      simp (decide := true) only [ax, tabs, s0, Int.reduceToNat, t0, t1, t2, t3, t8]
      generalize hz : insTo (fun x y => decide (c x y < 0)) (i - 1) xs = zs
      have hzl : zs.length = xs.length := by rw [← hz]; exact insTo_length ..
      refine AW.block (AW.loop (fun d T M' => ∃ (j : Nat) (ys : List Int), j ≤ i ∧ j = d ∧ ys.length = xs.length ∧ (∀ z ∈ ys, P z) ∧ insJ (fun x y => decide (c x y < 0)) j ys = insJ (fun x y => decide (c x y < 0)) i zs ∧ T 0 = .sl 1 o 0 xs.length xs.length ∧ T 1 = iv 0 ∧ T 2 = iv xs.length ∧ T 3 = .fn g caps ∧ T 8 = iv i ∧ T 9 = iv j ∧ M' = M.set o (.mem (ints ys))) i ?_ ?_)
      · exact ⟨i, zs, Nat.le_refl _, rfl, hzl, by rw [← hz]; exact insTo_all _ _ _ hP (by omega), rfl, by simp (decide := true) only [ax, tabs, s0, Int.reduceToNat, t0], by simp (decide := true) only [ax, tabs, s0, Int.reduceToNat, t1], by simp (decide := true) only [ax, tabs, s0, Int.reduceToNat, t2], by simp (decide := true) only [ax, tabs, s0, Int.reduceToNat, t3], by simp (decide := true) only [ax, tabs, s0, Int.reduceToNat, t8], by simp (decide := true) only [ax, tabs, s0, Int.reduceToNat], rfl⟩
      · clear t0 t1 t2 t3 t8 T
        rintro d T M' ⟨j, ys, hji, rfl, hyl, hall, hins, t0, t1, t2, t3, t8, t9, rfl⟩
        cases j with
        | zero =>
          repeat refine AW.seq ?_
          refine AW.draw Emix [2, 2, 2, 2, 2, 2, 2, 0, 0, 2, 2, 2, 0, 0] [0, 0, 3, 7, 15, 15, 15, 111, 239, 15, 15, 1039, 3599, 7695, 16383, 32767, 65535] (by kernel_rfl) ?_
          simp (decide := true) only [ax, axd, tabs, s0, Int.reduceToNat, t0, t1, t2, t3, t8, t9]
          repeat refine AW.seq ?_
          refine AW.condF (by simp (decide := true) only [ax, tabs, s0, Int.reduceToNat]) ?_
          refine AW.exit ?_
          try (simp (decide := true) only [ax, tabs, s0, Int.reduceToNat, t0, t1, t2, t3, t8, t9])
          repeat refine AW.seq ?_
          refine AW.ops ?_
          simp (decide := true) only [ax, tabs, s0, Int.reduceToNat, t0, t1, t2, t3, t8, t9]
          refine ⟨d - 1, by omega, i + 1, by omega, by omega, by omega, ?_⟩
          have e1 : IntKind.i64.wrap ((i : Int) + 1) = ((i + 1 : Nat) : Int) := wrap_succ (by omega)
          have e2 : insTo (fun x y => decide (c x y < 0)) (i + 1 - 1) xs = ys := by
            have e3 : i + 1 - 1 = (i - 1) + 1 := by omega
            rw [e3]; simp only [insTo]; rw [hz, show i - 1 + 1 = i from by omega, ← hins]; rfl
          try (simp (decide := true) only [ax, tabs, s0, Int.reduceToNat, t0, t1, t2, t3, t8, t9, e1, e2])
        | succ j =>
          have e0 : decide (0 < ((j + 1 : Nat) : Int)) = true := by simp
          have e1 : IntKind.i64.wrap (((j + 1 : Nat) : Int) - 1) = (j : Int) := wrap_pred (by omega)
          have h1 : j + 1 < xs.length := by omega
          have h2 : j < xs.length := by omega
          have d1 := ints_drop (xs := ys) (j := j + 1) (by omega)
          have d2 := ints_drop (xs := ys) (j := j) (by omega)
          repeat refine AW.seq ?_
          refine AW.draw Emix [2, 2, 2, 2, 2, 2, 2, 0, 0, 2, 2, 2, 0, 0] [0, 0, 3, 7, 15, 15, 15, 111, 239, 15, 15, 1039, 3599, 7695, 16383, 32767, 65535] (by kernel_rfl) ?_
          simp (decide := true) only [ax, axd, tabs, s0, Int.reduceToNat, t0, t1, t2, t3, t8, t9, e0, e1, hM, ints_length, hyl, h1, h2, d1, d2]
          refine AC.det (hc _ _ ys (getD_all hall (by omega)) (getD_all hall (by omega))) ?_
          try (simp (decide := true) only [ax, tabs, s0, Int.reduceToNat])
          try (simp (decide := true) only [ax, tabs, s0, Int.reduceToNat, t0, t1, t2, t3, t8, t9, e0, e1, hM, ints_length, hyl, h1, h2, d1, d2])
          repeat refine AW.seq ?_
          refine AW.cond (decide (c (ys.getD (j + 1) 0) (ys.getD j 0) < 0)) (by simp (decide := true) only [ax, tabs, s0, Int.reduceToNat]) (fun h => ?_) (fun h => ?_)
          · refine AW.skip ?_
            simp (decide := true) only [ax, tabs, s0, Int.reduceToNat]
            refine AW.seq (AW.block ?_)
            have h3 : j + (1 + 1) ≤ xs.length := by omega
            have h4 : j + 1 ≤ xs.length := by omega
            have p1 := ints_put (xs := ys) (j := j + 1) (by omega) (ys.getD j 0)
            have p2 := ints_put (xs := ys.set (j + 1) (ys.getD j 0)) (j := j) (by simp; omega) (ys.getD (j + 1) 0)
            repeat refine AW.seq ?_
            refine AW.draw Emix [2, 2, 2, 2, 2, 2, 2, 2, 0, 0, 2, 2, 0, 0, 0, 1] [0, 0, 0, 0, 8, 0, 0, 64, 224, 480, 0, 0, 3072, 7168, 16355, 32739, 65535, 131071] (by kernel_rfl) ?_
            simp (decide := true) only [ax, axd, tabs, s0, Int.reduceToNat, t0, t1, t2, t3, t8, t9, e0, e1, hM, ints_length, hyl, h1, h2, h3, h4, d1, d2, p1, p2, List.length_set]
            repeat refine AW.seq ?_
            refine AW.ops ?_
            simp (decide := true) only [ax, tabs, s0, Int.reduceToNat, t0, t1, t2, t3, t8, t9, e1]
            have hs : insJ (fun x y => decide (c x y < 0)) j (sw ys (j + 1)) = insJ (fun x y => decide (c x y < 0)) i zs := by
              rw [← hins]; simp only [insJ]; rw [if_pos h]
            refine ⟨j, by omega, j, sw ys (j + 1), by omega, rfl, by rw [sw_length]; exact hyl, sw_all hall (by omega), hs, ?_⟩
            exact ⟨rfl, rfl⟩
          · refine AW.exit ?_
            try (simp (decide := true) only [ax, tabs, s0, Int.reduceToNat, t0, t1, t2, t3, t8, t9])
            repeat refine AW.seq ?_
            refine AW.ops ?_
            simp (decide := true) only [ax, tabs, s0, Int.reduceToNat, t0, t1, t2, t3, t8, t9]
            refine ⟨d - 1, by omega, i + 1, by omega, by omega, by omega, ?_⟩
            have e1 : IntKind.i64.wrap ((i : Int) + 1) = ((i + 1 : Nat) : Int) := wrap_succ (by omega)
            have e2 : insTo (fun x y => decide (c x y < 0)) (i + 1 - 1) xs = ys := by
              have e3 : i + 1 - 1 = (i - 1) + 1 := by omega
              rw [e3]; simp only [insTo]; rw [hz, show i - 1 + 1 = i from by omega, ← hins]; simp only [insJ]; rw [if_neg (by rw [h]; decide)]
            try (simp (decide := true) only [ax, tabs, s0, Int.reduceToNat, t0, t1, t2, t3, t8, t9, e1, e2])
    · have hge : ¬ i < xs.length := by have := of_decide_eq_false h; omega
      refine AW.exit ?_
      try (simp (decide := true) only [ax, tabs, s0, Int.reduceToNat])
      refine leftS (.inl rfl) (hcl.set_ints _) (by simp) (by simp (decide := true) only [ax, tabs, s0, Int.reduceToNat]; rfl) ?_ rfl ⟨rfl, by rw [show i - 1 = xs.length - 1 from by omega]⟩
      try (simp (decide := true) only [ax, tabs, s0, Int.reduceToNat])
theorem insOrd_ok (xs : List Int) (o : Nat) (M : List AO) (hl : xs.length ≤ 4611686018427387904) (ho : o < M.length) :
    AC E 120 [.sl 1 o 0 xs.length xs.length, iv 0, iv xs.length] (M.set o (.mem (ints xs))) (fun r M' => r = .tup [] ∧ M' = M.set o (.mem (ints (insTo (fun x y => decide (x < y)) (xs.length - 1) xs)))) := by
  refine AC.body (fn := Tryz.f120) Tryz.func120 rfl rfl (by simp [Tryz.f120]) fun hcl => ?_
  simp only [Tryz.f120]
  have hM : ∀ a, (M.set o a)[o]? = some a := fun a => List.getElem?_set_self ho
  repeat refine AW.seq ?_
  refine AW.ops ?_
  simp (decide := true) only [ax, tabs, s0, Int.reduceToNat]
  refine AW.block (AW.loop (fun d T M' => ∃ i : Nat, 1 ≤ i ∧ (i ≤ xs.length ∨ i = 1) ∧ i + d = xs.length + 1 ∧ T 0 = .sl 1 o 0 xs.length xs.length ∧ T 1 = iv 0 ∧ T 2 = iv xs.length ∧ T 6 = iv i ∧ M' = M.set o (.mem (ints (insTo (fun x y => decide (x < y)) (i - 1) xs)))) xs.length ?_ ?_)
  · refine ⟨1, by omega, by omega, by omega, by simp (decide := true) only [ax, tabs, s0, Int.reduceToNat], by simp (decide := true) only [ax, tabs, s0, Int.reduceToNat], by simp (decide := true) only [ax, tabs, s0, Int.reduceToNat], ?_, rfl⟩
    try (simp (decide := true) only [ax, tabs, s0, Int.reduceToNat])
    rw [wrap_in (by omega) (by omega)]; rfl
  · rintro d T M' ⟨i, hi1, hi2, hid, t0, t1, t2, t8, rfl⟩
    repeat refine AW.seq ?_
    refine AW.ops ?_
    simp (decide := true) only [ax, tabs, s0, Int.reduceToNat, t0, t1, t2, t8]
    repeat refine AW.seq ?_
    refine AW.cond (decide ((i : Int) < (xs.length : Int))) (by simp (decide := true) only [ax, tabs, s0, Int.reduceToNat]) (fun h => ?_) (fun h => ?_)
    · have hlt : i < xs.length := by have := of_decide_eq_true h; omega
      refine AW.skip ?_
      simp (decide := true) only [ax, tabs, s0, Int.reduceToNat]
      refine AW.seq (AW.block ?_)
      repeat refine AW.seq ?_
      refine AW.ops ?_
      simp (decide := true) only [ax, tabs, s0, Int.reduceToNat, t0, t1, t2, t8]
      generalize hz : insTo (fun x y => decide (x < y)) (i - 1) xs = zs
      have hzl : zs.length = xs.length := by rw [← hz]; exact insTo_length ..
      refine AW.block (AW.loop (fun d T M' => ∃ (j : Nat) (ys : List Int), j ≤ i ∧ j = d ∧ ys.length = xs.length ∧ insJ (fun x y => decide (x < y)) j ys = insJ (fun x y => decide (x < y)) i zs ∧ T 0 = .sl 1 o 0 xs.length xs.length ∧ T 1 = iv 0 ∧ T 2 = iv xs.length ∧ T 6 = iv i ∧ T 7 = iv j ∧ M' = M.set o (.mem (ints ys))) i ?_ ?_)
      · exact ⟨i, zs, Nat.le_refl _, rfl, hzl, rfl, by simp (decide := true) only [ax, tabs, s0, Int.reduceToNat, t0], by simp (decide := true) only [ax, tabs, s0, Int.reduceToNat, t1], by simp (decide := true) only [ax, tabs, s0, Int.reduceToNat, t2], by simp (decide := true) only [ax, tabs, s0, Int.reduceToNat, t8], by simp (decide := true) only [ax, tabs, s0, Int.reduceToNat], rfl⟩
      · clear t0 t1 t2 t8 T
        rintro d T M' ⟨j, ys, hji, rfl, hyl, hins, t0, t1, t2, t8, t9, rfl⟩
        cases j with
        | zero =>
          repeat refine AW.seq ?_
          refine AW.draw Emix [2, 2, 2, 2, 2, 2, 0, 0, 2, 2, 2, 0, 0] [0, 0, 3, 7, 15, 15, 63, 127, 15, 15, 527, 1807, 3855, 8191, 16383] (by kernel_rfl) ?_
          simp (decide := true) only [ax, axd, tabs, s0, Int.reduceToNat, t0, t1, t2, t8, t9]
          repeat refine AW.seq ?_
          refine AW.condF (by simp (decide := true) only [ax, tabs, s0, Int.reduceToNat]) ?_
          refine AW.exit ?_
          try (simp (decide := true) only [ax, tabs, s0, Int.reduceToNat, t0, t1, t2, t8, t9])
          repeat refine AW.seq ?_
          refine AW.ops ?_
          simp (decide := true) only [ax, tabs, s0, Int.reduceToNat, t0, t1, t2, t8, t9]
          refine ⟨d - 1, by omega, i + 1, by omega, by omega, by omega, ?_⟩
          have e1 : IntKind.i64.wrap ((i : Int) + 1) = ((i + 1 : Nat) : Int) := wrap_succ (by omega)
          have e2 : insTo (fun x y => decide (x < y)) (i + 1 - 1) xs = ys := by
            have e3 : i + 1 - 1 = (i - 1) + 1 := by omega
            rw [e3]; simp only [insTo]; rw [hz, show i - 1 + 1 = i from by omega, ← hins]; rfl
          try (simp (decide := true) only [ax, tabs, s0, Int.reduceToNat, t0, t1, t2, t8, t9, e1, e2])
        | succ j =>
          have e0 : decide (0 < ((j + 1 : Nat) : Int)) = true := by simp
          have e1 : IntKind.i64.wrap (((j + 1 : Nat) : Int) - 1) = (j : Int) := wrap_pred (by omega)
          have h1 : j + 1 < xs.length := by omega
          have h2 : j < xs.length := by omega
          have d1 := ints_drop (xs := ys) (j := j + 1) (by omega)
          have d2 := ints_drop (xs := ys) (j := j) (by omega)
          repeat refine AW.seq ?_
          refine AW.draw Emix [2, 2, 2, 2, 2, 2, 0, 0, 2, 2, 2, 0, 0] [0, 0, 3, 7, 15, 15, 63, 127, 15, 15, 527, 1807, 3855, 8191, 16383] (by kernel_rfl) ?_
          simp (decide := true) only [ax, axd, tabs, s0, Int.reduceToNat, t0, t1, t2, t8, t9, e0, e1, hM, ints_length, hyl, h1, h2, d1, d2]
          refine AC.det (cmpLess_ok _ _ _) ?_
          try (simp (decide := true) only [ax, tabs, s0, Int.reduceToNat])
          repeat refine AW.seq ?_
          refine AW.cond (decide (ys.getD (j + 1) 0 < ys.getD j 0)) (by simp (decide := true) only [ax, tabs, s0, Int.reduceToNat]) (fun h => ?_) (fun h => ?_)
          · refine AW.skip ?_
            simp (decide := true) only [ax, tabs, s0, Int.reduceToNat]
            refine AW.seq (AW.block ?_)
            have h3 : j + (1 + 1) ≤ xs.length := by omega
            have h4 : j + 1 ≤ xs.length := by omega
            have p1 := ints_put (xs := ys) (j := j + 1) (by omega) (ys.getD j 0)
            have p2 := ints_put (xs := ys.set (j + 1) (ys.getD j 0)) (j := j) (by simp; omega) (ys.getD (j + 1) 0)
            repeat refine AW.seq ?_
            refine AW.draw Emix [2, 2, 2, 2, 2, 2, 2, 2, 0, 0, 2, 2, 0, 0, 0, 1] [0, 0, 0, 0, 8, 0, 0, 64, 224, 480, 0, 0, 3072, 7168, 16355, 32739, 65535, 131071] (by kernel_rfl) ?_
            simp (decide := true) only [ax, axd, tabs, s0, Int.reduceToNat, t0, t1, t2, t8, t9, e0, e1, hM, ints_length, hyl, h1, h2, h3, h4, d1, d2, p1, p2, List.length_set]
            repeat refine AW.seq ?_
            refine AW.ops ?_
            simp (decide := true) only [ax, tabs, s0, Int.reduceToNat, t0, t1, t2, t8, t9, e1]
            have hs : insJ (fun x y => decide (x < y)) j (sw ys (j + 1)) = insJ (fun x y => decide (x < y)) i zs := by
              rw [← hins]; simp only [insJ]; rw [if_pos h]
            refine ⟨j, by omega, j, sw ys (j + 1), by omega, rfl, by rw [sw_length]; exact hyl, hs, ?_⟩
            exact ⟨rfl, rfl⟩
          · refine AW.exit ?_
            try (simp (decide := true) only [ax, tabs, s0, Int.reduceToNat, t0, t1, t2, t8, t9])
            repeat refine AW.seq ?_
            refine AW.ops ?_
            simp (decide := true) only [ax, tabs, s0, Int.reduceToNat, t0, t1, t2, t8, t9]
            refine ⟨d - 1, by omega, i + 1, by omega, by omega, by omega, ?_⟩
            have e1 : IntKind.i64.wrap ((i : Int) + 1) = ((i + 1 : Nat) : Int) := wrap_succ (by omega)
            have e2 : insTo (fun x y => decide (x < y)) (i + 1 - 1) xs = ys := by
              have e3 : i + 1 - 1 = (i - 1) + 1 := by omega
              rw [e3]; simp only [insTo]; rw [hz, show i - 1 + 1 = i from by omega, ← hins]; simp only [insJ]; rw [if_neg (by rw [h]; decide)]
            try (simp (decide := true) only [ax, tabs, s0, Int.reduceToNat, t0, t1, t2, t8, t9, e1, e2])
    · have hge : ¬ i < xs.length := by have := of_decide_eq_false h; omega
      refine AW.exit ?_
      try (simp (decide := true) only [ax, tabs, s0, Int.reduceToNat])
      refine leftS (.inl rfl) (hcl.set_ints _) (by simp) (by simp (decide := true) only [ax, tabs, s0, Int.reduceToNat]; rfl) ?_ rfl ⟨rfl, by rw [show i - 1 = xs.length - 1 from by omega]⟩
      try (simp (decide := true) only [ax, tabs, s0, Int.reduceToNat])

/-! ### The sorts, for at most twelve -/
theorem bitsLen64_ok (n : Nat) (hn : n ≤ 12) (M : List AO) : AC E 119 [.int .u64 n] M (fun r M' => r = .any ∧ M' = M) := by
  refine AC.body (fn := Tryz.f119) Tryz.func119 rfl rfl (by simp [Tryz.f119]) fun hcl => ?_
  simp only [Tryz.f119]
  have e1 : decide ((4294967296 : Int) ≤ (n : Int)) = false := by simp; omega
  have e2 : decide ((65536 : Int) ≤ (n : Int)) = false := by simp; omega
  have e3 : decide ((256 : Int) ≤ (n : Int)) = false := by simp; omega
  have e4 : IntKind.u8.wrap (n : Int) = (n : Int) := by
    simp only [IntKind.wrap, IntKind.bits, IntKind.signed]
    simp
    omega
  repeat refine AW.seq ?_
  refine AW.ops ?_
  simp (decide := true) only [ax, tabs, s0, Int.reduceToNat]
  repeat refine AW.seq ?_
  refine AW.ops ?_
  simp (decide := true) only [ax, tabs, s0, Int.reduceToNat, e1]
  repeat refine AW.seq ?_
  refine AW.condF (by simp (decide := true) only [ax, tabs, s0, Int.reduceToNat]) ?_
  refine AW.skip ?_
  simp (decide := true) only [ax, tabs, s0, Int.reduceToNat]
  repeat refine AW.seq ?_
  refine AW.ops ?_
  simp (decide := true) only [ax, tabs, s0, Int.reduceToNat, e2]
  repeat refine AW.seq ?_
  refine AW.condF (by simp (decide := true) only [ax, tabs, s0, Int.reduceToNat]) ?_
  refine AW.skip ?_
  simp (decide := true) only [ax, tabs, s0, Int.reduceToNat]
  repeat refine AW.seq ?_
  refine AW.ops ?_
  simp (decide := true) only [ax, tabs, s0, Int.reduceToNat, e3]
  repeat refine AW.seq ?_
  refine AW.condF (by simp (decide := true) only [ax, tabs, s0, Int.reduceToNat]) ?_
  refine AW.skip ?_
  simp (decide := true) only [ax, tabs, s0, Int.reduceToNat]
  repeat refine AW.seq ?_
  refine AW.ops ?_
  simp (decide := true) only [ax, tabs, s0, Int.reduceToNat, e4]
  refine ⟨Nat.lt_of_le_of_lt hn (by decide +kernel), ?_⟩
  refine AW.ret (left0 (.inr rfl) hcl (Nat.le_refl _) (by simp (decide := true) only [ax, tabs, s0, Int.reduceToNat]; rfl) (.any _) ⟨rfl, rfl⟩)
theorem bitsLen_ok (n : Nat) (hn : n ≤ 12) (M : List AO) : AC E 98 [.int .u64 n] M (fun r M' => r = .any ∧ M' = M) := by
  refine AC.body (fn := Tryz.f98) Tryz.func98 rfl rfl (by simp [Tryz.f98]) fun hcl => ?_
  simp only [Tryz.f98]
  repeat refine AW.seq ?_
  refine AW.ops ?_
  simp (decide := true) only [ax, tabs, s0, Int.reduceToNat]
  repeat refine AW.seq ?_
  refine AW.condF (by simp (decide := true) only [ax, tabs, s0, Int.reduceToNat]) ?_
  refine AW.skip ?_
  simp (decide := true) only [ax, tabs, s0, Int.reduceToNat]
  repeat refine AW.seq ?_
  refine AW.ops ?_
  simp (decide := true) only [ax, tabs, s0, Int.reduceToNat]
  refine AC.det (bitsLen64_ok n hn M) ?_
  try (simp (decide := true) only [ax, tabs, s0, Int.reduceToNat])
  refine AW.ret (left0 (.inr rfl) hcl (Nat.le_refl _) (by simp (decide := true) only [ax, tabs, s0, Int.reduceToNat]; rfl) (.any _) ⟨rfl, rfl⟩)
theorem pdqCmp_ok (xs : List Int) (g : FuncId) (caps : List AV) (c : Int → Int → Int) (o : Nat) (M : List AO) (l : AV) (hl : xs.length ≤ 12) (ho : o < M.length)
    (P : Int → Prop) (hP : ∀ x ∈ xs, P x) (hc : ∀ x y ys, P x → P y → AC E g (iv x :: iv y :: caps) (M.set o (.mem (ints ys))) (fun r M' => r = iv (c x y) ∧ M' = M.set o (.mem (ints ys)))) :
    AC E 97 [.sl 1 o 0 xs.length xs.length, iv 0, iv xs.length, l, .fn g caps] (M.set o (.mem (ints xs))) (fun r M' => r = .tup [] ∧ M' = M.set o (.mem (ints (insTo (fun x y => decide (c x y < 0)) (xs.length - 1) xs)))) := by
  refine AC.body (fn := Tryz.f97) Tryz.func97 rfl rfl (by simp [Tryz.f97]) fun hcl => ?_
  simp only [Tryz.f97]
  repeat refine AW.seq ?_
  refine AW.ops ?_
  simp (decide := true) only [ax, tabs, s0, Int.reduceToNat]
  repeat refine AW.seq ?_
  refine AW.ops ?_
  simp (decide := true) only [ax, tabs, s0, Int.reduceToNat]
  have e1 : IntKind.i64.wrap ((xs.length : Int) - 0) = xs.length := by rw [wrap_in (by omega) (by omega)]; omega
  have e2 : decide ((xs.length : Int) ≤ 12) = true := by simp; omega
  refine AW.block (AW.once (AW.block ?_))
  repeat refine AW.seq ?_
  refine AW.ops ?_
  simp (decide := true) only [ax, tabs, s0, Int.reduceToNat, e1]
  repeat refine AW.seq ?_
  refine AW.ops ?_
  simp (decide := true) only [ax, tabs, s0, Int.reduceToNat, e2]
  repeat refine AW.seq ?_
  refine AW.condT (by simp (decide := true) only [ax, tabs, s0, Int.reduceToNat]) ?_
  repeat refine AW.seq ?_
  refine AW.ops ?_
  simp (decide := true) only [ax, tabs, s0, Int.reduceToNat]
  refine AC.det (insCmp_ok xs g caps c o M (by omega) ho P hP hc) ?_
  try (simp (decide := true) only [ax, tabs, s0, Int.reduceToNat])
  refine AW.ret (leftS (.inr rfl) (hcl.set_ints _) (by simp) (by simp (decide := true) only [ax, tabs, s0, Int.reduceToNat]; rfl) ?_ rfl ⟨rfl, rfl⟩)
  try (simp (decide := true) only [ax, tabs, s0, Int.reduceToNat])
theorem pdqOrd_ok (xs : List Int) (o : Nat) (M : List AO) (l : AV) (hl : xs.length ≤ 12) (ho : o < M.length) :
    AC E 100 [.sl 1 o 0 xs.length xs.length, iv 0, iv xs.length, l] (M.set o (.mem (ints xs))) (fun r M' => r = .tup [] ∧ M' = M.set o (.mem (ints (insTo (fun x y => decide (x < y)) (xs.length - 1) xs)))) := by
  refine AC.body (fn := Tryz.f100) Tryz.func100 rfl rfl (by simp [Tryz.f100]) fun hcl => ?_
  simp only [Tryz.f100]
  repeat refine AW.seq ?_
  refine AW.ops ?_
  simp (decide := true) only [ax, tabs, s0, Int.reduceToNat]
  repeat refine AW.seq ?_
  refine AW.ops ?_
  simp (decide := true) only [ax, tabs, s0, Int.reduceToNat]
  have e1 : IntKind.i64.wrap ((xs.length : Int) - 0) = xs.length := by rw [wrap_in (by omega) (by omega)]; omega
  have e2 : decide ((xs.length : Int) ≤ 12) = true := by simp; omega
  refine AW.block (AW.once (AW.block ?_))
  repeat refine AW.seq ?_
  refine AW.ops ?_
  simp (decide := true) only [ax, tabs, s0, Int.reduceToNat, e1]
  repeat refine AW.seq ?_
  refine AW.ops ?_
  simp (decide := true) only [ax, tabs, s0, Int.reduceToNat, e2]
  repeat refine AW.seq ?_
  refine AW.condT (by simp (decide := true) only [ax, tabs, s0, Int.reduceToNat]) ?_
  repeat refine AW.seq ?_
  refine AW.ops ?_
  simp (decide := true) only [ax, tabs, s0, Int.reduceToNat]
  refine AC.det (insOrd_ok xs o M (by omega) ho) ?_
  try (simp (decide := true) only [ax, tabs, s0, Int.reduceToNat])
  refine AW.ret (leftS (.inr rfl) (hcl.set_ints _) (by simp) (by simp (decide := true) only [ax, tabs, s0, Int.reduceToNat]; rfl) ?_ rfl ⟨rfl, rfl⟩)
  try (simp (decide := true) only [ax, tabs, s0, Int.reduceToNat])
theorem SortFunc_ok (xs : List Int) (g : FuncId) (caps : List AV) (c : Int → Int → Int) (o : Nat) (M : List AO) (hl : xs.length ≤ 12) (ho : o < M.length)
    (P : Int → Prop) (hP : ∀ x ∈ xs, P x) (hc : ∀ x y ys, P x → P y → AC E g (iv x :: iv y :: caps) (M.set o (.mem (ints ys))) (fun r M' => r = iv (c x y) ∧ M' = M.set o (.mem (ints ys)))) :
    AC E 75 [.sl 1 o 0 xs.length xs.length, .fn g caps] (M.set o (.mem (ints xs))) (fun r M' => r = .tup [] ∧ M' = M.set o (.mem (ints (insTo (fun x y => decide (c x y < 0)) (xs.length - 1) xs)))) := by
  refine AC.body (fn := Tryz.f75) Tryz.func75 rfl rfl (by simp [Tryz.f75]) fun hcl => ?_
  simp only [Tryz.f75]
  have hM : ∀ a, (M.set o a)[o]? = some a := fun a => List.getElem?_set_self ho
  repeat refine AW.seq ?_
  refine AW.ops ?_
  simp (decide := true) only [ax, tabs, s0, Int.reduceToNat, hM, ints_length]
  have e1 : IntKind.u64.wrap (xs.length : Int) = xs.length := by
    simp only [IntKind.wrap, IntKind.bits, IntKind.signed]
    simp
    omega
  repeat refine AW.seq ?_
  refine AW.ops ?_
  simp (decide := true) only [ax, tabs, s0, Int.reduceToNat, hM, ints_length, e1]
  refine AC.det (bitsLen_ok xs.length hl _) ?_
  try (simp (decide := true) only [ax, tabs, s0, Int.reduceToNat])
  refine AC.det (pdqCmp_ok xs g caps c o M _ hl ho P hP hc) ?_
  try (simp (decide := true) only [ax, tabs, s0, Int.reduceToNat])
  refine leftS (.inl rfl) (hcl.set_ints _) (by simp) (by simp (decide := true) only [ax, tabs, s0, Int.reduceToNat]; rfl) ?_ rfl ⟨rfl, rfl⟩
  try (simp (decide := true) only [ax, tabs, s0, Int.reduceToNat])
theorem Sort_ok (xs : List Int) (o : Nat) (M : List AO) (hl : xs.length ≤ 12) (ho : o < M.length) :
    AC E 81 [.sl 1 o 0 xs.length xs.length] (M.set o (.mem (ints xs))) (fun r M' => r = .tup [] ∧ M' = M.set o (.mem (ints (insTo (fun x y => decide (x < y)) (xs.length - 1) xs)))) := by
  refine AC.body (fn := Tryz.f81) Tryz.func81 rfl rfl (by simp [Tryz.f81]) fun hcl => ?_
  simp only [Tryz.f81]
  have hM : ∀ a, (M.set o a)[o]? = some a := fun a => List.getElem?_set_self ho
  repeat refine AW.seq ?_
  refine AW.ops ?_
  simp (decide := true) only [ax, tabs, s0, Int.reduceToNat, hM, ints_length]
  have e1 : IntKind.u64.wrap (xs.length : Int) = xs.length := by
    simp only [IntKind.wrap, IntKind.bits, IntKind.signed]
    simp
    omega
  repeat refine AW.seq ?_
  refine AW.ops ?_
  simp (decide := true) only [ax, tabs, s0, Int.reduceToNat, hM, ints_length, e1]
  refine AC.det (bitsLen_ok xs.length hl _) ?_
  try (simp (decide := true) only [ax, tabs, s0, Int.reduceToNat])
  refine AC.det (pdqOrd_ok xs o M _ hl ho) ?_
  try (simp (decide := true) only [ax, tabs, s0, Int.reduceToNat])
  refine leftS (.inl rfl) (hcl.set_ints _) (by simp) (by simp (decide := true) only [ax, tabs, s0, Int.reduceToNat]; rfl) ?_ rfl ⟨rfl, rfl⟩
  try (simp (decide := true) only [ax, tabs, s0, Int.reduceToNat])
/-- A row as it stands. -/
theorem set_self {M : List AO} {o : Nat} {x : AO} (h : M[o]? = some x) : M.set o x = M := by
  obtain ⟨hlt, he⟩ := List.getElem?_eq_some_iff.1 h
  rw [← he]; exact List.set_getElem_self hlt

end Go.Ax
