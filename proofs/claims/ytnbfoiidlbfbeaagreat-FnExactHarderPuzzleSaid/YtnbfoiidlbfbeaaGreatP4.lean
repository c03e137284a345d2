/- Sums over lists. -/
import Derived.Test.YtnbfoiidlbfbeaaGreatP3
set_option linter.unusedVariables false
set_option linter.unusedSimpArgs false
namespace Go.Ax
open Go.Proofs

theorem take_fold {α : Type} (f : α → Int → α) (a : α) (xs : List Int) {i : Nat} (h : i < xs.length) : (xs.take (i + 1)).foldl f a = f ((xs.take i).foldl f a) (xs.getD i 0) := by
  rw [List.take_succ_eq_append_getElem h, List.foldl_append]
  simp [List.getD_eq_getElem?_getD, List.getElem?_eq_getElem h]

/-- The slowest of some people. -/
def slowF (ts l : List Int) : Int := l.foldl (fun m k => if ts.getD k.toNat 0 > m then ts.getD k.toNat 0 else m) 0
theorem slowest_ok (ts l : List Int) (M : List AO) (hl : l.length ≤ 2000000) (hk : ∀ k ∈ l, 0 ≤ k ∧ k < ts.length) : AC E 101 [.fz 1 (ints ts), .fz 1 (ints l)] M (fun r M' => r = iv (slowF ts l) ∧ M' = M) := by
  refine AC.body (fn := Tryz.f101) Tryz.func101 rfl rfl (by simp [Tryz.f101]) fun hcl => ?_
  simp only [Tryz.f101]
  repeat refine AW.seq ?_
  refine AW.ops ?_
  simp (decide := true) only [ax, tabs, s0, Int.reduceToNat]
  repeat refine AW.seq ?_
  refine AW.ops ?_
  simp (decide := true) only [ax, tabs, s0, Int.reduceToNat]
  repeat refine AW.seq ?_
  refine AW.ops ?_
  simp (decide := true) only [ax, tabs, s0, Int.reduceToNat]
  refine AW.range l.length (fun i T M' => T 0 = .fz 1 (ints ts) ∧ T 5 = iv (slowF ts (l.take i)) ∧ T 8 = .fz 1 (ints l) ∧ M' = M) (by omega) (by (first | (simp (decide := true) only [ax, tabs, s0, Int.reduceToNat]; done) | (simp (decide := true) only [ax, tabs, s0, Int.reduceToNat]; rfl) | rfl)) (by simp (decide := true) only [ax, tabs, s0, Int.reduceToNat, ints_length]) (by decide) (by decide) ⟨by (first | (simp (decide := true) only [ax, tabs, s0, Int.reduceToNat]; done) | (simp (decide := true) only [ax, tabs, s0, Int.reduceToNat]; rfl) | rfl), by (first | (simp (decide := true) only [ax, tabs, s0, Int.reduceToNat]; done) | (simp (decide := true) only [ax, tabs, s0, Int.reduceToNat]; rfl) | rfl), by (first | (simp (decide := true) only [ax, tabs, s0, Int.reduceToNat]; done) | (simp (decide := true) only [ax, tabs, s0, Int.reduceToNat]; rfl) | rfl), rfl⟩ ?_ ?_ ?_
  · rintro i T M' r ⟨h0, h5, h8, hM⟩
    refine ⟨⟨?_, ?_, ?_, hM⟩, ⟨?_, ?_, ?_, hM⟩, ⟨?_, ?_, ?_, hM⟩⟩ <;> simp (decide := true) only [ax, tabs, s0, Int.reduceToNat, h0, h5, h8]
  · rintro i T M' hi ⟨h0, h5, h8, rfl⟩ hI hN
    have hg := ints_get (xs := l) hi
    obtain ⟨k1, k2⟩ := getD_all hk hi
    have hg2 := ints_get (xs := ts) (i := (l.getD i 0).toNat) (by omega)
    refine AW.block ?_
    repeat refine AW.seq ?_
    refine AW.ops ?_
    simp (decide := true) only [ax, tabs, s0, Int.reduceToNat, h0, h5, h8, hI, hN, ints_length, hi, hg]
    repeat refine AW.seq ?_
    refine AW.ops ?_
    simp (decide := true) only [ax, tabs, s0, Int.reduceToNat, h0, h5, h8, hI, hN, ints_length, hi, hg, k1, k2, hg2]
    unfold slowF
    rw [take_fold _ _ _ hi]
  · rintro T M' ⟨h0, h5, h8, rfl⟩
    try (simp (decide := true) only [ax, tabs, s0, Int.reduceToNat])
    repeat refine AW.seq ?_
    refine AW.ops ?_
    simp (decide := true) only [ax, tabs, s0, Int.reduceToNat, h5]
    rw [List.take_length]
    refine AW.ret (leftS (.inr rfl) hcl (Nat.le_refl _) (by simp (decide := true) only [ax, tabs, s0, Int.reduceToNat]; rfl) ?_ rfl ⟨rfl, rfl⟩)
    simp (decide := true) only [ax, tabs, s0, Int.reduceToNat, h5]

theorem fold_bound {f : Int → Int} {c : Int} (hc : 0 ≤ c) : ∀ (xs : List Int) (a : Int), (∀ x ∈ xs, 0 ≤ f x ∧ f x ≤ c) → 0 ≤ a → 0 ≤ xs.foldl (fun m x => m + f x) a ∧ xs.foldl (fun m x => m + f x) a ≤ a + c * xs.length
  | [], a, _, h => by simp; exact h
  | x :: xs, a, hx, h => by
    obtain ⟨h1, h2⟩ := hx x (List.mem_cons_self ..)
    obtain ⟨h3, h4⟩ := fold_bound hc xs (a + f x) (fun y hy => hx y (List.mem_cons_of_mem _ hy)) (by omega)
    refine ⟨h3, ?_⟩
    simp only [List.foldl_cons, List.length_cons, Int.natCast_add, Int.mul_add]
    simp
    omega
def sumF (l : List Int) : Int := l.foldl (fun m x => m + x) 0
theorem sumF_bound {l : List Int} (hk : ∀ x ∈ l, 0 ≤ x ∧ x ≤ 1000000) : 0 ≤ sumF l ∧ sumF l ≤ 1000000 * l.length := by
  have := fold_bound (f := fun x => x) (c := 1000000) (by omega) l 0 hk (by omega)
  simpa [sumF] using this
theorem sum_ok (l : List Int) (M : List AO) (hl : l.length ≤ 1000) (hk : ∀ x ∈ l, 0 ≤ x ∧ x ≤ 1000000) : AC E 147 [.fz 1 (ints l)] M (fun r M' => r = iv (sumF l) ∧ M' = M) := by
  refine AC.body (fn := Tryz.f147) Tryz.func147 rfl rfl (by simp [Tryz.f147]) fun hcl => ?_
  simp only [Tryz.f147]
  repeat refine AW.seq ?_
  refine AW.ops ?_
  simp (decide := true) only [ax, tabs, s0, Int.reduceToNat]
  repeat refine AW.seq ?_
  refine AW.ops ?_
  simp (decide := true) only [ax, tabs, s0, Int.reduceToNat]
  repeat refine AW.seq ?_
  refine AW.ops ?_
  simp (decide := true) only [ax, tabs, s0, Int.reduceToNat]
  refine AW.range l.length (fun i T M' => T 3 = iv (sumF (l.take i)) ∧ T 6 = .fz 1 (ints l) ∧ M' = M) (by omega) (by (first | (simp (decide := true) only [ax, tabs, s0, Int.reduceToNat]; done) | (simp (decide := true) only [ax, tabs, s0, Int.reduceToNat]; rfl) | rfl)) (by simp (decide := true) only [ax, tabs, s0, Int.reduceToNat, ints_length]) (by decide) (by decide) ⟨by (first | (simp (decide := true) only [ax, tabs, s0, Int.reduceToNat]; done) | (simp (decide := true) only [ax, tabs, s0, Int.reduceToNat]; rfl) | rfl), by (first | (simp (decide := true) only [ax, tabs, s0, Int.reduceToNat]; done) | (simp (decide := true) only [ax, tabs, s0, Int.reduceToNat]; rfl) | rfl), rfl⟩ ?_ ?_ ?_
  · rintro i T M' r ⟨h5, h8, hM⟩
    refine ⟨⟨?_, ?_, hM⟩, ⟨?_, ?_, hM⟩, ⟨?_, ?_, hM⟩⟩ <;> simp (decide := true) only [ax, tabs, s0, Int.reduceToNat, h5, h8]
  · rintro i T M' hi ⟨h5, h8, rfl⟩ hI hN
    have hg := ints_get (xs := l) hi
    obtain ⟨k1, k2⟩ := getD_all hk hi
    obtain ⟨b1, b2⟩ := sumF_bound (l := l.take i) fun x hx => hk x (List.mem_of_mem_take hx)
    have hlen : (l.take i).length ≤ 1000 := by simp; omega
    have e1 : IntKind.i64.wrap (sumF (l.take i) + l.getD i 0) = sumF (l.take (i + 1)) := by
      rw [wrap_in (by omega) (by omega)]
      unfold sumF
      rw [take_fold _ _ _ hi]
    refine AW.block ?_
    repeat refine AW.seq ?_
    refine AW.ops ?_
    simp (decide := true) only [ax, tabs, s0, Int.reduceToNat, h5, h8, hI, hN, ints_length, hi, hg]
    repeat refine AW.seq ?_
    refine AW.ops ?_
    simp (decide := true) only [ax, tabs, s0, Int.reduceToNat, h5, h8, hI, hN, ints_length, hi, hg, e1]
  · rintro T M' ⟨h5, h8, rfl⟩
    try (simp (decide := true) only [ax, tabs, s0, Int.reduceToNat])
    repeat refine AW.seq ?_
    refine AW.ops ?_
    simp (decide := true) only [ax, tabs, s0, Int.reduceToNat, h5]
    rw [List.take_length]
    refine AW.ret (leftS (.inr rfl) hcl (Nat.le_refl _) (by simp (decide := true) only [ax, tabs, s0, Int.reduceToNat]; rfl) ?_ rfl ⟨rfl, rfl⟩)
    simp (decide := true) only [ax, tabs, s0, Int.reduceToNat, h5]
theorem tmod2 {x : Int} (h : 0 ≤ x) : 0 ≤ x.tmod 2 ∧ x.tmod 2 ≤ 1 := by rw [Int.tmod_eq_emod_of_nonneg h]; omega
def evenF (l : List Int) : Int := l.foldl (fun m x => m + (1 - x.tmod 2)) 0
theorem evenF_bound {l : List Int} (hk : ∀ x ∈ l, 0 ≤ x ∧ x ≤ 1000000) : 0 ≤ evenF l ∧ evenF l ≤ 1 * l.length := by
  have := fold_bound (f := fun x => 1 - x.tmod 2) (c := 1) (by omega) l 0 (fun x hx => by have := tmod2 (hk x hx).1; omega) (by omega)
  simpa [evenF] using this
theorem even_ok (l : List Int) (M : List AO) (hl : l.length ≤ 1000) (hk : ∀ x ∈ l, 0 ≤ x ∧ x ≤ 1000000) : AC E 149 [.fz 1 (ints l)] M (fun r M' => r = iv (evenF l) ∧ M' = M) := by
  refine AC.body (fn := Tryz.f149) Tryz.func149 rfl rfl (by simp [Tryz.f149]) fun hcl => ?_
  simp only [Tryz.f149]
  repeat refine AW.seq ?_
  refine AW.ops ?_
  simp (decide := true) only [ax, tabs, s0, Int.reduceToNat]
  repeat refine AW.seq ?_
  refine AW.ops ?_
  simp (decide := true) only [ax, tabs, s0, Int.reduceToNat]
  repeat refine AW.seq ?_
  refine AW.ops ?_
  simp (decide := true) only [ax, tabs, s0, Int.reduceToNat]
  refine AW.range l.length (fun i T M' => T 3 = iv (evenF (l.take i)) ∧ T 6 = .fz 1 (ints l) ∧ M' = M) (by omega) (by (first | (simp (decide := true) only [ax, tabs, s0, Int.reduceToNat]; done) | (simp (decide := true) only [ax, tabs, s0, Int.reduceToNat]; rfl) | rfl)) (by simp (decide := true) only [ax, tabs, s0, Int.reduceToNat, ints_length]) (by decide) (by decide) ⟨by (first | (simp (decide := true) only [ax, tabs, s0, Int.reduceToNat]; done) | (simp (decide := true) only [ax, tabs, s0, Int.reduceToNat]; rfl) | rfl), by (first | (simp (decide := true) only [ax, tabs, s0, Int.reduceToNat]; done) | (simp (decide := true) only [ax, tabs, s0, Int.reduceToNat]; rfl) | rfl), rfl⟩ ?_ ?_ ?_
  · rintro i T M' r ⟨h5, h8, hM⟩
    refine ⟨⟨?_, ?_, hM⟩, ⟨?_, ?_, hM⟩, ⟨?_, ?_, hM⟩⟩ <;> simp (decide := true) only [ax, tabs, s0, Int.reduceToNat, h5, h8]
  · rintro i T M' hi ⟨h5, h8, rfl⟩ hI hN
    have hg := ints_get (xs := l) hi
    obtain ⟨k1, k2⟩ := getD_all hk hi
    obtain ⟨b1, b2⟩ := evenF_bound (l := l.take i) fun x hx => hk x (List.mem_of_mem_take hx)
    have hlen : (l.take i).length ≤ 1000 := by simp; omega
    obtain ⟨m1, m2⟩ := tmod2 k1
    have e0 : IntKind.i64.wrap (1 - (l.getD i 0).tmod 2) = 1 - (l.getD i 0).tmod 2 := wrap_in (by omega) (by omega)
    have e1 : IntKind.i64.wrap (evenF (l.take i) + (1 - (l.getD i 0).tmod 2)) = evenF (l.take (i + 1)) := by
      rw [wrap_in (by omega) (by omega)]
      unfold evenF
      rw [take_fold _ _ _ hi]
    refine AW.block ?_
    repeat refine AW.seq ?_
    refine AW.ops ?_
    simp (decide := true) only [ax, tabs, s0, Int.reduceToNat, h5, h8, hI, hN, ints_length, hi, hg]
    repeat refine AW.seq ?_
    refine AW.ops ?_
    simp (decide := true) only [ax, tabs, s0, Int.reduceToNat, h5, h8, hI, hN, ints_length, hi, hg, e0, e1]
  · rintro T M' ⟨h5, h8, rfl⟩
    try (simp (decide := true) only [ax, tabs, s0, Int.reduceToNat])
    repeat refine AW.seq ?_
    refine AW.ops ?_
    simp (decide := true) only [ax, tabs, s0, Int.reduceToNat, h5]
    rw [List.take_length]
    refine AW.ret (leftS (.inr rfl) hcl (Nat.le_refl _) (by simp (decide := true) only [ax, tabs, s0, Int.reduceToNat]; rfl) ?_ rfl ⟨rfl, rfl⟩)
    simp (decide := true) only [ax, tabs, s0, Int.reduceToNat, h5]

/-- Trips, as a frozen list of lists. -/
def fzi (l : List Int) : AV := .fz 1 (ints l)
def timeF (ts : List Int) (L : List (List Int)) : Int := L.foldl (fun m l => m + slowF ts l) 0
theorem fzi_get {L : List (List Int)} {i : Nat} (h : i < L.length) : (L.map fzi).getD i .any = fzi (L[i]) := by
  simp [List.getD_eq_getElem?_getD, List.getElem?_eq_getElem h]
theorem slowF_bound (ts : List Int) (B : Int) (hts : ∀ t ∈ ts, 0 ≤ t ∧ t ≤ B) (hB : 0 ≤ B) (l : List Int) : 0 ≤ slowF ts l ∧ slowF ts l ≤ B := by
  have key : ∀ (l : List Int) (a : Int), 0 ≤ a ∧ a ≤ B → 0 ≤ l.foldl (fun m k => if ts.getD k.toNat 0 > m then ts.getD k.toNat 0 else m) a ∧ l.foldl (fun m k => if ts.getD k.toNat 0 > m then ts.getD k.toNat 0 else m) a ≤ B := by
    intro l
    induction l with
    | nil => intro a h; exact h
    | cons k l ih =>
      intro a h
      rw [List.foldl_cons]
      refine ih _ ?_
      split
      · rename_i hgt
        refine ⟨by omega, ?_⟩
        rw [List.getD_eq_getElem?_getD]
        cases hx : ts[k.toNat]? with
        | none => simpa using hB
        | some t => exact (hts t (List.mem_of_getElem? hx)).2
      · exact h
  exact key l 0 ⟨by omega, hB⟩
theorem take_foldL (f : Int → List Int → Int) (a : Int) (xs : List (List Int)) {i : Nat} (h : i < xs.length) : (xs.take (i + 1)).foldl f a = f ((xs.take i).foldl f a) xs[i] := by
  rw [List.take_succ_eq_append_getElem h, List.foldl_append]
  simp
theorem foldL_bound {f : List Int → Int} {c : Int} (hc : 0 ≤ c) (hf : ∀ l, 0 ≤ f l ∧ f l ≤ c) : ∀ (xs : List (List Int)) (a : Int), 0 ≤ a → 0 ≤ xs.foldl (fun m x => m + f x) a ∧ xs.foldl (fun m x => m + f x) a ≤ a + c * xs.length
  | [], a, h => by simp; exact h
  | x :: xs, a, h => by
    obtain ⟨h1, h2⟩ := hf x
    obtain ⟨h3, h4⟩ := foldL_bound hc hf xs (a + f x) (by omega)
    refine ⟨h3, ?_⟩
    simp only [List.foldl_cons, List.length_cons, Int.natCast_add, Int.mul_add]
    simp
    omega
theorem time_ok (ts : List Int) (L : List (List Int)) (r : ByteArray) (e : Bool) (M : List AO) (hl : L.length ≤ 1000) (hL : ∀ l ∈ L, l.length ≤ 2000000 ∧ ∀ k ∈ l, 0 ≤ k ∧ k < ts.length) (hts : ∀ t ∈ ts, 0 ≤ t ∧ t ≤ 1000000) :
    AC E 83 [.agg [.fz 1 (L.map fzi), .str r, .bool e], .fz 1 (ints ts)] M (fun r M' => r = iv (timeF ts L) ∧ M' = M) := by
  refine AC.body (fn := Tryz.f83) Tryz.func83 rfl rfl (by simp [Tryz.f83]) fun hcl => ?_
  simp only [Tryz.f83]
  repeat refine AW.seq ?_
  refine AW.ops ?_
  simp (decide := true) only [ax, tabs, s0, Int.reduceToNat]
  repeat refine AW.seq ?_
  refine AW.ops ?_
  simp (decide := true) only [ax, tabs, s0, Int.reduceToNat]
  repeat refine AW.seq ?_
  refine AW.ops ?_
  simp (decide := true) only [ax, tabs, s0, Int.reduceToNat]
  refine AW.range L.length (fun i T M' => T 1 = .fz 1 (ints ts) ∧ T 5 = iv (timeF ts (L.take i)) ∧ T 9 = .fz 1 (L.map fzi) ∧ M' = M ++ [.mem [.fz 1 (L.map fzi), .str r, .bool e]]) (by omega) (by (first | (simp (decide := true) only [ax, tabs, s0, Int.reduceToNat]; done) | (simp (decide := true) only [ax, tabs, s0, Int.reduceToNat]; rfl) | rfl)) (by simp (decide := true) only [ax, tabs, s0, Int.reduceToNat, List.length_map]) (by decide) (by decide) ⟨by (first | (simp (decide := true) only [ax, tabs, s0, Int.reduceToNat]; done) | (simp (decide := true) only [ax, tabs, s0, Int.reduceToNat]; rfl) | rfl), by (first | (simp (decide := true) only [ax, tabs, s0, Int.reduceToNat]; done) | (simp (decide := true) only [ax, tabs, s0, Int.reduceToNat]; rfl) | rfl), by (first | (simp (decide := true) only [ax, tabs, s0, Int.reduceToNat]; done) | (simp (decide := true) only [ax, tabs, s0, Int.reduceToNat]; rfl) | rfl), by (first | (simp (decide := true) only [ax, tabs, s0, Int.reduceToNat]; done) | (simp (decide := true) only [ax, tabs, s0, Int.reduceToNat]; rfl) | rfl)⟩ ?_ ?_ ?_
  · rintro i T M' r ⟨h0, h5, h8, hM⟩
    refine ⟨⟨?_, ?_, ?_, hM⟩, ⟨?_, ?_, ?_, hM⟩, ⟨?_, ?_, ?_, hM⟩⟩ <;> simp (decide := true) only [ax, tabs, s0, Int.reduceToNat, h0, h5, h8]
  · rintro i T M' hi ⟨h0, h5, h8, rfl⟩ hI hN
    have hg := fzi_get hi
    obtain ⟨k1, k2⟩ := hL L[i] (List.getElem_mem hi)
    obtain ⟨b1, b2⟩ := foldL_bound (f := slowF ts) (c := 1000000) (by omega) (slowF_bound ts 1000000 hts (by omega)) (L.take i) 0 (by omega)
    obtain ⟨b3, b4⟩ := slowF_bound ts 1000000 hts (by omega) L[i]
    have hlen : (L.take i).length ≤ 1000 := by simp; omega
    have e1 : IntKind.i64.wrap (timeF ts (L.take i) + slowF ts L[i]) = timeF ts (L.take (i + 1)) := by
      unfold timeF
      rw [wrap_in (by omega) (by omega), take_foldL _ _ _ hi]
    refine AW.block ?_
    repeat refine AW.seq ?_
    refine AW.ops ?_
    simp (decide := true) only [ax, tabs, s0, Int.reduceToNat, h0, h5, h8, hI, hN, List.length_map, hi, hg, fzi]
    repeat refine AW.seq ?_
    refine AW.ops ?_
    simp (decide := true) only [ax, tabs, s0, Int.reduceToNat, h0, h5, h8, hI, hN, List.length_map, hi]
    refine AC.det (slowest_ok ts L[i] _ k1 k2) ?_
    try (simp (decide := true) only [ax, tabs, s0, Int.reduceToNat])
    try (simp (decide := true) only [ax, tabs, s0, Int.reduceToNat, e1, h0, h8, hI, hN])
  · rintro T M' ⟨h0, h5, h8, rfl⟩
    try (simp (decide := true) only [ax, tabs, s0, Int.reduceToNat])
    repeat refine AW.seq ?_
    refine AW.ops ?_
    simp (decide := true) only [ax, tabs, s0, Int.reduceToNat, h5]
    rw [List.take_length]
    refine AW.ret (leftJ (.inr rfl) hcl (Nat.le_refl _) (by simp (decide := true) only [ax, tabs, s0, Int.reduceToNat]; rfl) ?_ rfl ⟨rfl, rfl⟩)
    simp (decide := true) only [ax, tabs, s0, Int.reduceToNat, h5]
end Go.Ax
