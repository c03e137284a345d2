/- Puzzles without a clue. -/
import Derived.Test.YtnbfoiidlbfbeaaGreatP18
set_option linter.unusedVariables false
set_option linter.unusedSimpArgs false
namespace Go.Ax
open Go.Proofs

def drop1 (cs : List Clu) (k : Nat) : List Clu := cs.take k ++ cs.drop (k + 1)
def cells (cs : List Clu) : List AV := flat (cs.map cv)
theorem cells_length (cs : List Clu) : (cells cs).length = cs.length * 3 := by
  have := flat_length (k := 3) (xs := cs.map cv) (fun x hx => by simp only [List.mem_map] at hx; obtain ⟨c, _, rfl⟩ := hx; rfl)
  rw [List.length_map] at this; exact this
theorem cells_append (a b : List Clu) : cells (a ++ b) = cells a ++ cells b := by simp [cells, flat]
theorem cells_take (cs : List Clu) (k : Nat) : (cells cs).take (k * 3) = cells (cs.take k) := by
  rcases Nat.lt_or_ge k cs.length with h | h
  · have := cells_append (cs.take k) (cs.drop k)
    rw [List.take_append_drop] at this
    rw [this, List.take_append_of_le_length (by rw [cells_length, List.length_take]; omega), List.take_of_length_le (by rw [cells_length, List.length_take]; omega)]
  · rw [List.take_of_length_le (by rw [cells_length]; omega), List.take_of_length_le h]
theorem cells_drop (cs : List Clu) (k : Nat) : (cells cs).drop (k * 3) = cells (cs.drop k) := by
  rcases Nat.lt_or_ge k cs.length with h | h
  · have := cells_append (cs.take k) (cs.drop k)
    rw [List.take_append_drop] at this
    rw [this, List.drop_append_of_le_length (by rw [cells_length, List.length_take]; omega), List.drop_of_length_le (by rw [cells_length, List.length_take]; omega)]
    rfl
  · rw [List.drop_of_length_le (by rw [cells_length]; omega), List.drop_of_length_le h]; rfl
theorem cells_all (cs : List Clu) : (cells cs).all AV.one = true := by
  induction cs with
  | nil => rfl
  | cons c cs ih =>
    have : cells (c :: cs) = [iv c.1, iv c.2.1, iv c.2.2] ++ cells cs := rfl
    rw [this, List.all_append, ih]; rfl
theorem cells_scal (cs : List Clu) : ∀ a ∈ cells cs, scal1 a = true := by
  induction cs with
  | nil => intro a h; cases h
  | cons c cs ih =>
    intro a h
    have : cells (c :: cs) = [iv c.1, iv c.2.1, iv c.2.2] ++ cells cs := rfl
    rw [this] at h
    rcases List.mem_append.1 h with h | h
    · simp at h; rcases h with rfl | rfl | rfl <;> rfl
    · exact ih a h
theorem Els.clues (n : Nat) (cs : List Clu) : Els 3 n (cs.map cv) := ⟨fun x hx => by simp only [List.mem_map] at hx; obtain ⟨c, _, rfl⟩ := hx; rfl, fun i b hb => .of_scal1 (cells_scal cs b (List.mem_of_getElem? hb))⟩
theorem CloneClue_sl (cs : List Clu) (M : List AO) (hl : cs.length ≤ 2000000) (h0 : cs ≠ []) : AC E 68 [.fz 3 (cs.map cv)] M (fun r M' => r = .sl 3 M.length 0 cs.length (cs.length * 3) ∧ M' = M ++ [.mem (cells cs)]) :=
  (CloneClue_row (cs.map cv) M (by rw [List.length_map]; exact hl) (.clues ..) (cells_all cs)).mono fun r M' h => by
    rcases h with ⟨h, _⟩ | ⟨h1, h2⟩
    · exact absurd (by simpa using h) h0
    · rw [List.length_map] at h1; exact ⟨h1, h2⟩
theorem del_cells {cs : List Clu} {k : Nat} (hk : k < cs.length) : putA' (putA' (cells cs) (k * 3) (cells (cs.drop (k + 1)))) ((cs.length - 1) * 3) [iv 0, iv 0, iv 0] = cells (drop1 cs k) ++ [iv 0, iv 0, iv 0] := by
  have h1 : putA' (cells cs) (k * 3) (cells (cs.drop (k + 1))) = cells (drop1 cs k) ++ (cells cs).drop (k * 3 + (cs.length - (k + 1)) * 3) := by
    unfold putA'
    rw [cells_take, cells_length, List.length_drop, drop1, cells_append]
  have hl : (cells (drop1 cs k)).length = (cs.length - 1) * 3 := by rw [cells_length, drop1, List.length_append, List.length_take, List.length_drop]; congr 1; omega
  rw [h1]
  unfold putA'
  rw [List.take_append_of_le_length (by omega), List.take_of_length_le (by omega), List.drop_of_length_le (by simp [hl, cells_length]; omega), List.append_nil]
theorem DeleteClue_ok (cs : List Clu) (k o : Nat) (M : List AO) (hk : k < cs.length) (hl : cs.length ≤ 2000000) (ho : M[o]? = some (.mem (cells cs))) :
    AC E 92 [.sl 3 o 0 cs.length (cs.length * 3), iv k, iv (k + 1 : Nat)] M (fun r M' => r = .sl 3 o 0 (cs.length - 1) (cs.length * 3) ∧ M' = M.set o (.mem (cells (drop1 cs k) ++ [iv 0, iv 0, iv 0]))) := by
  refine AC.body (fn := Tryz.f92) Tryz.func92 rfl rfl (by simp [Tryz.f92]) fun hcl => ?_
  simp only [Tryz.f92]
  have hlt := lt_of_obj ho
  have hcl' := cells_length cs
  have e0 : decide (((k : Nat) : Int) = ((k + 1 : Nat) : Int)) = false := decide_eq_false (by omega)
  try (simp (decide := true) only [ax, tabs, s0, Int.reduceToNat, ho, hcl', e0])
  repeat (first
    | refine AW.seq ?_
    | refine AW.blockS ?_
    | ((first | refine AW.skip ?_ | refine AW.exit ?_ | refine AW.opsN rfl ?_ | refine AW.ret ?_); try (simp (decide := true) only [ax, tabs, s0, Int.reduceToNat, ho, hcl', e0]))
    | (refine AW.condT ?_ ?_; (focus (simp (decide := true) only [ax, tabs, s0, Int.reduceToNat, ho, hcl', e0]; done)))
    | (refine AW.condF ?_ ?_; (focus (simp (decide := true) only [ax, tabs, s0, Int.reduceToNat, ho, hcl', e0]; done))))
  have k1 : k + 1 ≤ cs.length := by omega
  have k0 : k ≤ cs.length := by omega
  refine ⟨by omega, by omega, Nat.le_refl _, ?_⟩
  have n1 : ¬ (k + (cs.length - (k + 1))) * 3 > cs.length * 3 := by omega
  have c1 : k * 3 ≤ cs.length * 3 := by omega
  have c2 : (k + 1) * 3 ≤ cs.length * 3 := by omega
  have c3 : (k + 1) * 3 + (cs.length - (k + 1)) * 3 ≤ cs.length * 3 := by omega
  try (simp (decide := true) only [ax, tabs, s0, Int.reduceToNat, ho, hcl', e0, k1, k0])
  repeat (first
    | refine AW.seq ?_
    | refine AW.blockS ?_
    | ((first | refine AW.skip ?_ | refine AW.exit ?_ | refine AW.opsN rfl ?_ | refine AW.ret ?_); try (simp (decide := true) only [ax, tabs, s0, Int.reduceToNat, ho, hcl', e0, k1, k0]))
    | (refine AW.condT ?_ ?_; (focus (simp (decide := true) only [ax, tabs, s0, Int.reduceToNat, ho, hcl', e0, k1, k0]; done)))
    | (refine AW.condF ?_ ?_; (focus (simp (decide := true) only [ax, tabs, s0, Int.reduceToNat, ho, hcl', e0, k1, k0]; done))))
  have c0 : 0 < cs.length * 3 := by omega
  have hd0 : (cells cs).drop ((k + 1) * 3) = cells (cs.drop (k + 1)) := cells_drop cs (k + 1)
  have ht0 : (cells cs).take (k * 3) = cells (cs.take k) := cells_take cs k
  have htk : (cells (cs.drop (k + 1))).take ((cs.length - (k + 1)) * 3) = cells (cs.drop (k + 1)) := List.take_of_length_le (by rw [cells_length, List.length_drop]; omega)
  have hld : (cells (cs.drop (k + 1))).length = (cs.length - (k + 1)) * 3 := by rw [cells_length, List.length_drop]
  have n2 : ¬ k * 3 = cs.length * 3 := by omega
  have n3 : k + (cs.length - (k + 1)) = cs.length - 1 := by omega
  have c6 : cs.length - 1 ≤ cs.length := by omega
  have c7 : (cs.length - 1) * 3 < cs.length * 3 := by omega
  have c8 : k * 3 + (cs.length - (k + 1)) * 3 ≤ cs.length * 3 := by omega
  have c9 : (k + (cs.length - (k + 1))) * 3 ≤ cs.length * 3 := by omega
  have c10 : cs.length - (cs.length - 1) = 1 := by omega
  rcases Nat.lt_or_ge (k + 1) cs.length with hlast | hlast
  · have c4 : (k + 1) * 3 < cs.length * 3 := by omega
    repeat refine AW.seq ?_
    refine AW.draw Emix [2, 2, 0, 2, 2, 0] [0, 0, 3, 0, 0, 24, 63, 127] (by kernel_rfl) ?_
    simp (decide := true) only [ax, axd, tabs, s0, Int.reduceToNat, ho, hcl', k0, k1, c0, c1, c2, c3, c4]
    refine ⟨Nat.le_refl _, ?_⟩
    try (simp (decide := true) only [ax, tabs, s0, Int.reduceToNat, Nat.sub_zero, hd0, htk, hld, cells_all, n2, n3, if_neg n2, c6, c7, c8, c9, c10, ho, hcl'])
    repeat (first
      | refine AW.seq ?_
      | refine AW.blockS ?_
      | ((first | refine AW.skip ?_ | refine AW.exit ?_ | refine AW.opsN rfl ?_ | refine AW.ret ?_); try (simp (decide := true) only [ax, tabs, s0, Int.reduceToNat, Nat.sub_zero, hd0, htk, hld, cells_all, n2, n3, if_neg n2, c6, c7, c8, c9, c10, ho, hcl']))
      | (refine AW.condT ?_ ?_; (focus (simp (decide := true) only [ax, tabs, s0, Int.reduceToNat, Nat.sub_zero, hd0, htk, hld, cells_all, n2, n3, if_neg n2, c6, c7, c8, c9, c10, ho, hcl']; done)))
      | (refine AW.condF ?_ ?_; (focus (simp (decide := true) only [ax, tabs, s0, Int.reduceToNat, Nat.sub_zero, hd0, htk, hld, cells_all, n2, n3, if_neg n2, c6, c7, c8, c9, c10, ho, hcl']; done))))
    have hset : ∀ x, (M.set o x)[o]? = some x := fun x => List.getElem?_set_self hlt
    have hpl : (putA' (cells cs) (k * 3) (cells (List.drop (k + 1) cs))).length = cs.length * 3 := by rw [putA'_length (by rw [hcl', hld]; omega), hcl']
    refine ⟨by omega, ?_⟩
    try (simp (decide := true) only [ax, tabs, s0, Int.reduceToNat, Nat.sub_zero, n3, c6, c7, c8, c9, c10, hset, hpl])
    repeat (first
      | refine AW.seq ?_
      | refine AW.blockS ?_
      | ((first | refine AW.skip ?_ | refine AW.exit ?_ | refine AW.opsN rfl ?_ | refine AW.ret ?_); try (simp (decide := true) only [ax, tabs, s0, Int.reduceToNat, Nat.sub_zero, n3, c6, c7, c8, c9, c10, hset, hpl]))
      | (refine AW.condT ?_ ?_; (focus (simp (decide := true) only [ax, tabs, s0, Int.reduceToNat, Nat.sub_zero, n3, c6, c7, c8, c9, c10, hset, hpl]; done)))
      | (refine AW.condF ?_ ?_; (focus (simp (decide := true) only [ax, tabs, s0, Int.reduceToNat, Nat.sub_zero, n3, c6, c7, c8, c9, c10, hset, hpl]; done))))
    refine ⟨Nat.le_refl _, by omega, ?_⟩
    try (simp (decide := true) only [ax, tabs, s0, Int.reduceToNat])
    repeat (first
      | refine AW.seq ?_
      | refine AW.blockS ?_
      | ((first | refine AW.skip ?_ | refine AW.exit ?_ | refine AW.opsN rfl ?_ | refine AW.ret ?_); try (simp (decide := true) only [ax, tabs, s0, Int.reduceToNat]))
      | (refine AW.condT ?_ ?_; (focus (simp (decide := true) only [ax, tabs, s0, Int.reduceToNat]; done)))
      | (refine AW.condF ?_ ?_; (focus (simp (decide := true) only [ax, tabs, s0, Int.reduceToNat]; done))))
    refine leftN (.inr rfl) (by simp) (by simp (decide := true) only [ax, tabs, s0, Int.reduceToNat]; rfl) rfl ?_ ⟨rfl, ?_⟩
    · show Cl _ (.sl 3 o 0 _ _)
      exact .sl _ _ _ _ _ (by rw [List.length_set]; exact hlt)
    · rw [← del_cells hk]
  · have c4 : ¬ (k + 1) * 3 < cs.length * 3 := by omega
    repeat refine AW.seq ?_
    refine AW.draw Emix [2, 2, 0, 2, 2, 0] [0, 0, 3, 0, 0, 24, 63, 127] (by kernel_rfl) ?_
    simp (decide := true) only [ax, axd, tabs, s0, Int.reduceToNat, ho, hcl', k0, k1, c0, c1, c2, c3, c4]
    refine ⟨Nat.le_refl _, ?_⟩
    have n4 : k = cs.length - 1 := by omega
    try (simp (decide := true) only [ax, tabs, s0, Int.reduceToNat, Nat.sub_zero, hd0, htk, hld, cells_all, n2, n3, if_neg n2, c6, c7, c8, c9, c10, ho, hcl'])
    repeat (first
      | refine AW.seq ?_
      | refine AW.blockS ?_
      | ((first | refine AW.skip ?_ | refine AW.exit ?_ | refine AW.opsN rfl ?_ | refine AW.ret ?_); try (simp (decide := true) only [ax, tabs, s0, Int.reduceToNat, Nat.sub_zero, hd0, htk, hld, cells_all, n2, n3, if_neg n2, c6, c7, c8, c9, c10, ho, hcl']))
      | (refine AW.condT ?_ ?_; (focus (simp (decide := true) only [ax, tabs, s0, Int.reduceToNat, Nat.sub_zero, hd0, htk, hld, cells_all, n2, n3, if_neg n2, c6, c7, c8, c9, c10, ho, hcl']; done)))
      | (refine AW.condF ?_ ?_; (focus (simp (decide := true) only [ax, tabs, s0, Int.reduceToNat, Nat.sub_zero, hd0, htk, hld, cells_all, n2, n3, if_neg n2, c6, c7, c8, c9, c10, ho, hcl']; done))))
    have hset : ∀ x, (M.set o x)[o]? = some x := fun x => List.getElem?_set_self hlt
    refine ⟨by omega, ?_⟩
    try (simp (decide := true) only [ax, tabs, s0, Int.reduceToNat, Nat.sub_zero, n3, c6, c7, c8, c9, c10, hset, ho, hcl'])
    repeat (first
      | refine AW.seq ?_
      | refine AW.blockS ?_
      | ((first | refine AW.skip ?_ | refine AW.exit ?_ | refine AW.opsN rfl ?_ | refine AW.ret ?_); try (simp (decide := true) only [ax, tabs, s0, Int.reduceToNat, Nat.sub_zero, n3, c6, c7, c8, c9, c10, hset, ho, hcl']))
      | (refine AW.condT ?_ ?_; (focus (simp (decide := true) only [ax, tabs, s0, Int.reduceToNat, Nat.sub_zero, n3, c6, c7, c8, c9, c10, hset, ho, hcl']; done)))
      | (refine AW.condF ?_ ?_; (focus (simp (decide := true) only [ax, tabs, s0, Int.reduceToNat, Nat.sub_zero, n3, c6, c7, c8, c9, c10, hset, ho, hcl']; done))))
    have hpl : (putA' (cells cs) (k * 3) []).length = cs.length * 3 := by rw [putA'_length (by rw [hcl']; simp; omega), hcl']
    have c11 : k * 3 < cs.length * 3 := by omega
    have c12 : cs.length - k = 1 := by omega
    have hnil : ([] : List AV) = cells (cs.drop (k + 1)) := by rw [List.drop_of_length_le (by omega)]; rfl
    refine ⟨hpl, hpl, by omega, Nat.le_refl _, ?_⟩
    rw [if_pos c11]
    refine ⟨hpl, by omega, ?_⟩
    try (simp (decide := true) only [ax, tabs, s0, Int.reduceToNat])
    repeat (first
      | refine AW.seq ?_
      | refine AW.blockS ?_
      | ((first | refine AW.skip ?_ | refine AW.exit ?_ | refine AW.opsN rfl ?_ | refine AW.ret ?_); try (simp (decide := true) only [ax, tabs, s0, Int.reduceToNat]))
      | (refine AW.condT ?_ ?_; (focus (simp (decide := true) only [ax, tabs, s0, Int.reduceToNat]; done)))
      | (refine AW.condF ?_ ?_; (focus (simp (decide := true) only [ax, tabs, s0, Int.reduceToNat]; done))))
    refine leftN (.inr rfl) (by simp) (by simp (decide := true) only [ax, tabs, s0, Int.reduceToNat]; rfl) rfl ?_ ⟨?_, ?_⟩
    · show Cl _ (.sl 3 o 0 _ _)
      exact .sl _ _ _ _ _ (by rw [List.length_set]; exact hlt)
    · rw [← n4]; rfl
    · rw [← del_cells hk, ← hnil, c12, ← n4]; rfl
end Go.Ax
