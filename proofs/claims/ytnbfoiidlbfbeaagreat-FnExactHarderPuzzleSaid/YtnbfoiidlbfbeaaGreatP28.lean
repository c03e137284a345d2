/- The law of the harder puzzle. -/
import Derived.Test.YtnbfoiidlbfbeaaGreatP27
set_option linter.unusedVariables false
set_option linter.unusedSimpArgs false
namespace Go.Ax
open Go.Proofs

/-- The law's memory: LM, and the answer of the other side behind the argument. -/
structure HM (M K : List AO) (p : Int) (cs : List Clu) (Y : List AV) (ox c6 : Nat) (X : List AV) : Prop where
  lm : LM M K p cs ox c6 X
  k4 : K[M.length + 1]? = some (.mem Y)
  g4 : M.length + 1 < ox ∧ M.length + 1 < c6
theorem HM.app {M K : List AO} {p : Int} {cs : List Clu} {Y : List AV} {ox c6 : Nat} {X : List AV} (h : HM M K p cs Y ox c6 X) (Z : List AO) : HM M (K ++ Z) p cs Y ox c6 X := ⟨h.lm.app Z, app_obj h.k4 Z, h.g4⟩
theorem HM.setx {M K : List AO} {p : Int} {cs : List Clu} {Y : List AV} {ox c6 : Nat} {X : List AV} (h : HM M K p cs Y ox c6 X) (X' : List AV) : HM M (K.set ox (.mem X')) p cs Y ox c6 X' := by
  have := h.g4
  exact ⟨h.lm.setx X', by rw [List.getElem?_set_ne (by omega)]; exact h.k4, h.g4⟩
theorem HM.setg {M K : List AO} {p : Int} {cs : List Clu} {Y : List AV} {ox c6 og : Nat} {X : List AV} (h : HM M K p cs Y ox c6 X) (x : AO) (hg : M.length + 1 < og ∧ og ≠ ox ∧ og ≠ c6) : HM M (K.set og x) p cs Y ox c6 X :=
  ⟨h.lm.setg x (by omega), by rw [List.getElem?_set_ne (by omega)]; exact h.k4, h.g4⟩
set_option maxHeartbeats 4000000 in
theorem FnHarder_ok (p : Int) (cs : List Clu) (M : List AO) (hc : cs.length ≤ 9223372036854775807) : AC E 4 [pv p cs] M (fun r M' => r = .bool true ∧ M' = M) := by
  refine AC.body (fn := Tryz.f4) Tryz.func4 rfl rfl (by simp [Tryz.f4]) fun hcl => ?_
  simp only [Tryz.f4]
  try (simp (decide := true) only [ax, tabs, s0, Int.reduceToNat, pv])
  repeat (first
    | refine AW.seq ?_
    | refine AW.blockS ?_
    | ((first | refine AW.skip ?_ | refine AW.exit ?_ | refine AW.opsN rfl ?_ | refine AW.ret ?_); try (simp (decide := true) only [ax, tabs, s0, Int.reduceToNat, pv]))
    | (refine AW.condT ?_ ?_; (focus (simp (decide := true) only [ax, tabs, s0, Int.reduceToNat, pv]; done)))
    | (refine AW.condF ?_ ?_; (focus (simp (decide := true) only [ax, tabs, s0, Int.reduceToNat, pv]; done))))
  refine AC.det (szPuzzle_ok p cs 1048576 _ (by omega) hc) ?_
  by_cases hb : (1048576 : Int) - cs.length < 0
  · rw [if_pos hb]
    try (simp (decide := true) only [ax, tabs, s0, Int.reduceToNat])
    repeat (first
      | refine AW.seq ?_
      | refine AW.blockS ?_
      | ((first | refine AW.skip ?_ | refine AW.exit ?_ | refine AW.opsN rfl ?_ | refine AW.ret ?_); try (simp (decide := true) only [ax, tabs, s0, Int.reduceToNat]))
      | (refine AW.condT ?_ ?_; (focus (simp (decide := true) only [ax, tabs, s0, Int.reduceToNat]; done)))
      | (refine AW.condF ?_ ?_; (focus (simp (decide := true) only [ax, tabs, s0, Int.reduceToNat]; done))))
    first
      | refine leftJ (.inr rfl) hcl (Nat.le_refl _) (by simp (decide := true) only [ax, tabs, s0, Int.reduceToNat]; rfl) ?_ rfl ⟨rfl, rfl⟩
      | refine leftS (.inr rfl) hcl (Nat.le_refl _) (by simp (decide := true) only [ax, tabs, s0, Int.reduceToNat]; rfl) ?_ rfl ⟨rfl, rfl⟩
    simp (decide := true) only [ax, tabs, s0, Int.reduceToNat]
  rw [if_neg hb]
  have hb' : decide ((1048576 : Int) - cs.length < 0) = false := decide_eq_false hb
  have hl : cs.length ≤ 2000000 := by omega
  try (simp (decide := true) only [ax, tabs, s0, Int.reduceToNat, hb'])
  repeat (first
    | refine AW.seq ?_
    | refine AW.blockS ?_
    | ((first | refine AW.skip ?_ | refine AW.exit ?_ | refine AW.opsN rfl ?_ | refine AW.ret ?_); try (simp (decide := true) only [ax, tabs, s0, Int.reduceToNat, hb']))
    | (refine AW.condT ?_ ?_; (focus (simp (decide := true) only [ax, tabs, s0, Int.reduceToNat, hb']; done)))
    | (refine AW.condF ?_ ?_; (focus (simp (decide := true) only [ax, tabs, s0, Int.reduceToNat, hb']; done))))
  refine AC.det (toPuzzle_fz p cs _ hl) ?_
  try (simp (decide := true) only [ax, tabs, s0, Int.reduceToNat])
  repeat (first
    | refine AW.seq ?_
    | refine AW.blockS ?_
    | ((first | refine AW.skip ?_ | refine AW.exit ?_ | refine AW.opsN rfl ?_ | refine AW.ret ?_); try (simp (decide := true) only [ax, tabs, s0, Int.reduceToNat]))
    | (refine AW.condT ?_ ?_; (focus (simp (decide := true) only [ax, tabs, s0, Int.reduceToNat]; done)))
    | (refine AW.condF ?_ ?_; (focus (simp (decide := true) only [ax, tabs, s0, Int.reduceToNat]; done))))
  have hpc : decide (p = p ∧ cs = cs) = true := decide_eq_true ⟨rfl, rfl⟩
  by_cases hno : isPuzF p cs = true → oneF p.toNat cs = false
  · refine AC.det (specHarder_no p cs _ hl hno) ?_
    try (simp (decide := true) only [ax, tabs, s0, Int.reduceToNat])
    repeat (first
      | refine AW.seq ?_
      | refine AW.blockS ?_
      | ((first | refine AW.skip ?_ | refine AW.exit ?_ | refine AW.opsN rfl ?_ | refine AW.ret ?_); try (simp (decide := true) only [ax, tabs, s0, Int.reduceToNat]))
      | (refine AW.condT ?_ ?_; (focus (simp (decide := true) only [ax, tabs, s0, Int.reduceToNat]; done)))
      | (refine AW.condF ?_ ?_; (focus (simp (decide := true) only [ax, tabs, s0, Int.reduceToNat]; done))))
    refine (toPuzzle_row p cs _ hl).mono ?_
    rintro _ M1 ⟨rfl, hx, J1, rfl⟩
    simp only [List.append_assoc, List.cons_append, List.nil_append, List.length_append, List.length_cons, List.length_nil, Nat.add_assoc] at hx ⊢
    generalize hox : M.length + (0 + 1 + 1 + 3) = ox at hx ⊢
    try (simp (decide := true) only [ax, tabs, s0, Int.reduceToNat])
    repeat (first
      | refine AW.seq ?_
      | refine AW.blockS ?_
      | ((first | refine AW.skip ?_ | refine AW.exit ?_ | refine AW.opsN rfl ?_ | refine AW.ret ?_); try (simp (decide := true) only [ax, tabs, s0, Int.reduceToNat]))
      | (refine AW.condT ?_ ?_; (focus (simp (decide := true) only [ax, tabs, s0, Int.reduceToNat]; done)))
      | (refine AW.condF ?_ ?_; (focus (simp (decide := true) only [ax, tabs, s0, Int.reduceToNat]; done))))
    have hxl := lt_of_obj hx
    have hm : HM M (M ++ AO.mem [iv p, AV.fz 3 (List.map cv cs)] :: AO.mem [iv 0, AV.nils] :: (J1 ++ [AO.mem [iv p, AV.sl 3 ox 0 cs.length (cs.length * 3)]])) p cs [iv 0, AV.nils] ox (M.length + (J1.length + (1 + 1))) (cells cs) := by
      refine ⟨⟨List.prefix_append _ _, by simp, ?_, by simp, by simp at hxl; omega⟩, by simp, by omega⟩
      have := app_obj hx [AO.mem [iv p, AV.sl 3 ox 0 cs.length (cs.length * 3)]]
      simpa using this
    generalize M ++ AO.mem [iv p, AV.fz 3 (List.map cv cs)] :: AO.mem [iv 0, AV.nils] :: (J1 ++ [AO.mem [iv p, AV.sl 3 ox 0 cs.length (cs.length * 3)]]) = K at hm ⊢
    generalize M.length + (J1.length + (1 + 1)) = c6 at hm ⊢
    clear hx hxl hox
    refine AC.det (Harder_live_no p cs ox K hl hno hm.lm.kx) ?_
    have a4 := fun X => app_obj hm.k4 X
    try (simp (decide := true) only [ax, tabs, s0, Int.reduceToNat, a4])
    repeat (first
      | refine AW.seq ?_
      | refine AW.blockS ?_
      | ((first | refine AW.skip ?_ | refine AW.exit ?_ | refine AW.opsN rfl ?_ | refine AW.ret ?_); try (simp (decide := true) only [ax, tabs, s0, Int.reduceToNat, a4]))
      | (refine AW.condT ?_ ?_; (focus (simp (decide := true) only [ax, tabs, s0, Int.reduceToNat, a4]; done)))
      | (refine AW.condF ?_ ?_; (focus (simp (decide := true) only [ax, tabs, s0, Int.reduceToNat, a4]; done))))
    refine AC.det (eqPuzzle_nn 0 0 _) ?_
    rw [decide_eq_true ⟨rfl, rfl⟩]
    have k7 : (K ++ [AO.mem [iv 0, AV.nils]])[K.length]? = some (.mem [iv 0, .nils]) := by simp
    have g7 : M.length + 1 < K.length ∧ K.length ≠ ox ∧ K.length ≠ c6 := by have := lt_of_obj hm.lm.kx; have := lt_of_obj hm.lm.k6; have := lt_of_obj hm.k4; omega
    replace hm := hm.app [AO.mem [iv 0, AV.nils]]
    clear a4
    generalize K.length = c7 at *
    generalize K ++ [AO.mem [iv 0, AV.nils]] = K at *
    have k1 := hm.lm.k1
    have k6 := hm.lm.k6
    have k4 := hm.k4
    try (simp (decide := true) only [ax, tabs, s0, Int.reduceToNat, k1, k4, k6, k7, not_true_eq_false, ne_eq])
    repeat (first
      | refine AW.seq ?_
      | refine AW.blockS ?_
      | ((first | refine AW.skip ?_ | refine AW.exit ?_ | refine AW.opsN rfl ?_ | refine AW.ret ?_); try (simp (decide := true) only [ax, tabs, s0, Int.reduceToNat, k1, k4, k6, k7, not_true_eq_false, ne_eq]))
      | (refine AW.condT ?_ ?_; (focus (simp (decide := true) only [ax, tabs, s0, Int.reduceToNat, k1, k4, k6, k7, not_true_eq_false, ne_eq]; done)))
      | (refine AW.condF ?_ ?_; (focus (simp (decide := true) only [ax, tabs, s0, Int.reduceToNat, k1, k4, k6, k7, not_true_eq_false, ne_eq]; done))))
    repeat refine AW.seq ?_
    refine AW.draw Emix [0, 0, 0] [0, 0, 2, 7, 15] (by kernel_rfl) ?_
    simp (decide := true) only [ax, axd, tabs, s0, Int.reduceToNat, k1, k6]
    refine ⟨_, toPuzzle_fz p cs _ hl, ?_⟩
    try (simp (decide := true) only [ax, axd, tabs, s0, Int.reduceToNat, k1, k6])
    refine AC.det (eqPuzzle_lend p p cs cs ox _ (by omega) hm.lm.kx) ?_
    rw [hpc]
    try (simp (decide := true) only [ax, tabs, s0, Int.reduceToNat, k1, k6])
    repeat (first
      | refine AW.seq ?_
      | refine AW.blockS ?_
      | ((first | refine AW.skip ?_ | refine AW.exit ?_ | refine AW.opsN rfl ?_ | refine AW.ret ?_); try (simp (decide := true) only [ax, tabs, s0, Int.reduceToNat, k1, k6]))
      | (refine AW.condT ?_ ?_; (focus (simp (decide := true) only [ax, tabs, s0, Int.reduceToNat, k1, k6]; done)))
      | (refine AW.condF ?_ ?_; (focus (simp (decide := true) only [ax, tabs, s0, Int.reduceToNat, k1, k6]; done))))
    refine (markPuzzle_row p cs.length (cs.length * 3) (cells cs) 1 ox _ (by omega) (by omega) (Nat.le_refl _) (cells_length cs) hm.lm.kx).mono ?_
    rintro _ K3 ⟨rfl, cs', J3, hcs', rfl⟩
    have w3 : decide ((1 : Int) + 3 * (cs.length : Int) < 0) = false := decide_eq_false (by omega)
    replace k7 := app_obj ((List.getElem?_set_ne (a := AO.mem cs') (show ox ≠ c7 from fun h => g7.2.1 h.symm)).trans k7) J3
    replace hm := (hm.setx cs').app J3
    generalize K.set ox (.mem cs') ++ J3 = K at *
    have k1 := hm.lm.k1
    have k6 := hm.lm.k6
    have k4 := hm.k4
    try (simp (decide := true) only [ax, tabs, s0, Int.reduceToNat, w3, k4, k7])
    repeat (first
      | refine AW.seq ?_
      | refine AW.blockS ?_
      | ((first | refine AW.skip ?_ | refine AW.exit ?_ | refine AW.opsN rfl ?_ | refine AW.ret ?_); try (simp (decide := true) only [ax, tabs, s0, Int.reduceToNat, w3, k4, k7]))
      | (refine AW.condT ?_ ?_; (focus (simp (decide := true) only [ax, tabs, s0, Int.reduceToNat, w3, k4, k7]; done)))
      | (refine AW.condF ?_ ?_; (focus (simp (decide := true) only [ax, tabs, s0, Int.reduceToNat, w3, k4, k7]; done))))
    refine AC.det (eqPuzzle_nn 0 0 _) ?_
    rw [decide_eq_true ⟨rfl, rfl⟩]
    try (simp (decide := true) only [ax, tabs, s0, Int.reduceToNat, not_true_eq_false, ne_eq, k7, k4])
    repeat (first
      | refine AW.seq ?_
      | refine AW.blockS ?_
      | ((first | refine AW.skip ?_ | refine AW.exit ?_ | refine AW.opsN rfl ?_ | refine AW.ret ?_); try (simp (decide := true) only [ax, tabs, s0, Int.reduceToNat, not_true_eq_false, ne_eq, k7, k4]))
      | (refine AW.condT ?_ ?_; (focus (simp (decide := true) only [ax, tabs, s0, Int.reduceToNat, not_true_eq_false, ne_eq, k7, k4]; done)))
      | (refine AW.condF ?_ ?_; (focus (simp (decide := true) only [ax, tabs, s0, Int.reduceToNat, not_true_eq_false, ne_eq, k7, k4]; done))))
    refine AC.det (markPuzzle_nil 0 1 _) ?_
    try (simp (decide := true) only [ax, tabs, s0, Int.reduceToNat, k7])
    repeat (first
      | refine AW.seq ?_
      | refine AW.blockS ?_
      | ((first | refine AW.skip ?_ | refine AW.exit ?_ | refine AW.opsN rfl ?_ | refine AW.ret ?_); try (simp (decide := true) only [ax, tabs, s0, Int.reduceToNat, k7]))
      | (refine AW.condT ?_ ?_; (focus (simp (decide := true) only [ax, tabs, s0, Int.reduceToNat, k7]; done)))
      | (refine AW.condF ?_ ?_; (focus (simp (decide := true) only [ax, tabs, s0, Int.reduceToNat, k7]; done))))
    refine AC.det (heldPuzzle_nn 0 1 _ (by omega)) ?_
    have a4 := fun X => app_obj hm.k4 X
    have a7 := fun X => app_obj k7 X
    try (simp (decide := true) only [ax, tabs, s0, Int.reduceToNat, k1, not_true_eq_false, ne_eq])
    repeat (first
      | refine AW.seq ?_
      | refine AW.blockS ?_
      | ((first | refine AW.skip ?_ | refine AW.exit ?_ | refine AW.opsN rfl ?_ | refine AW.ret ?_); try (simp (decide := true) only [ax, tabs, s0, Int.reduceToNat, k1, not_true_eq_false, ne_eq]))
      | (refine AW.condT ?_ ?_; (focus (simp (decide := true) only [ax, tabs, s0, Int.reduceToNat, k1, not_true_eq_false, ne_eq]; done)))
      | (refine AW.condF ?_ ?_; (focus (simp (decide := true) only [ax, tabs, s0, Int.reduceToNat, k1, not_true_eq_false, ne_eq]; done))))
    refine AC.det (toPuzzle_fz p cs _ hl) ?_
    try (simp (decide := true) only [ax, tabs, s0, Int.reduceToNat])
    repeat (first
      | refine AW.seq ?_
      | refine AW.blockS ?_
      | ((first | refine AW.skip ?_ | refine AW.exit ?_ | refine AW.opsN rfl ?_ | refine AW.ret ?_); try (simp (decide := true) only [ax, tabs, s0, Int.reduceToNat]))
      | (refine AW.condT ?_ ?_; (focus (simp (decide := true) only [ax, tabs, s0, Int.reduceToNat]; done)))
      | (refine AW.condF ?_ ?_; (focus (simp (decide := true) only [ax, tabs, s0, Int.reduceToNat]; done))))
    refine AC.det (HarderPuzzle_no p cs _ hl hno) ?_
    try (simp (decide := true) only [ax, tabs, s0, Int.reduceToNat, a4])
    repeat (first
      | refine AW.seq ?_
      | refine AW.blockS ?_
      | ((first | refine AW.skip ?_ | refine AW.exit ?_ | refine AW.opsN rfl ?_ | refine AW.ret ?_); try (simp (decide := true) only [ax, tabs, s0, Int.reduceToNat, a4]))
      | (refine AW.condT ?_ ?_; (focus (simp (decide := true) only [ax, tabs, s0, Int.reduceToNat, a4]; done)))
      | (refine AW.condF ?_ ?_; (focus (simp (decide := true) only [ax, tabs, s0, Int.reduceToNat, a4]; done))))
    refine AC.det (eqPuzzle_nn 0 0 _) ?_
    rw [decide_eq_true ⟨rfl, rfl⟩]
    try (simp (decide := true) only [ax, tabs, s0, Int.reduceToNat, not_true_eq_false, ne_eq, a7])
    repeat (first
      | refine AW.seq ?_
      | refine AW.blockS ?_
      | ((first | refine AW.skip ?_ | refine AW.exit ?_ | refine AW.opsN rfl ?_ | refine AW.ret ?_); try (simp (decide := true) only [ax, tabs, s0, Int.reduceToNat, not_true_eq_false, ne_eq, a7]))
      | (refine AW.condT ?_ ?_; (focus (simp (decide := true) only [ax, tabs, s0, Int.reduceToNat, not_true_eq_false, ne_eq, a7]; done)))
      | (refine AW.condF ?_ ?_; (focus (simp (decide := true) only [ax, tabs, s0, Int.reduceToNat, not_true_eq_false, ne_eq, a7]; done))))
    refine AC.det (heldPuzzle_nn 0 1 _ (by omega)) ?_
    try (simp (decide := true) only [ax, tabs, s0, Int.reduceToNat, not_true_eq_false, ne_eq])
    repeat (first
      | refine AW.seq ?_
      | refine AW.blockS ?_
      | ((first | refine AW.skip ?_ | refine AW.exit ?_ | refine AW.opsN rfl ?_ | refine AW.ret ?_); try (simp (decide := true) only [ax, tabs, s0, Int.reduceToNat, not_true_eq_false, ne_eq]))
      | (refine AW.condT ?_ ?_; (focus (simp (decide := true) only [ax, tabs, s0, Int.reduceToNat, not_true_eq_false, ne_eq]; done)))
      | (refine AW.condF ?_ ?_; (focus (simp (decide := true) only [ax, tabs, s0, Int.reduceToNat, not_true_eq_false, ne_eq]; done))))
    obtain ⟨J, rfl⟩ := hm.lm.pre
    rw [List.append_assoc]
    first
      | refine leftJ (.inr rfl) hcl (Nat.le_refl _) (by simp (decide := true) only [ax, tabs, s0, Int.reduceToNat]; rfl) ?_ rfl ⟨rfl, rfl⟩
      | refine leftS (.inr rfl) hcl (Nat.le_refl _) (by simp (decide := true) only [ax, tabs, s0, Int.reduceToNat]; rfl) ?_ rfl ⟨rfl, rfl⟩
    simp (decide := true) only [ax, tabs, s0, Int.reduceToNat]
  · have hyes : isPuzF p cs = true ∧ oneF p.toNat cs = true := by
      by_cases h : isPuzF p cs = true
      · exact ⟨h, by cases h2 : oneF p.toNat cs with | true => rfl | false => exact absurd (fun _ => h2) hno⟩
      · exact absurd (fun h2 => absurd h2 h) hno
    obtain ⟨hv, h1⟩ := hyes
    obtain ⟨n, rfl, hn1, h4, h6, hv1, hv2⟩ := isPuzF_dec hv
    rw [Int.toNat_natCast] at h1
    refine AC.det (specHarder_ok n cs _ hv h1) ?_
    have hHl : (hardL n cs).length ≤ cs.length := (hardGo_mem _ _ _).2
    have hlive := fun o K => Harder_live n cs o K hv h1
    have hfz := fun K => HarderPuzzle_fz n cs K hv h1
    generalize hardL n cs = H at *
    generalize hpp : (n : Int) = p at *
    clear hno hv1 hv hpp
    try (simp (decide := true) only [ax, tabs, s0, Int.reduceToNat, pv])
    repeat (first
      | refine AW.seq ?_
      | refine AW.blockS ?_
      | ((first | refine AW.skip ?_ | refine AW.exit ?_ | refine AW.opsN rfl ?_ | refine AW.ret ?_); try (simp (decide := true) only [ax, tabs, s0, Int.reduceToNat, pv]))
      | (refine AW.condT ?_ ?_; (focus (simp (decide := true) only [ax, tabs, s0, Int.reduceToNat, pv]; done)))
      | (refine AW.condF ?_ ?_; (focus (simp (decide := true) only [ax, tabs, s0, Int.reduceToNat, pv]; done))))
    refine (toPuzzle_row p cs _ hl).mono ?_
    rintro _ M1 ⟨rfl, hx, J1, rfl⟩
    simp only [List.append_assoc, List.cons_append, List.nil_append, List.length_append, List.length_cons, List.length_nil, Nat.add_assoc] at hx ⊢
    generalize hox : M.length + (0 + 1 + 1 + 3) = ox at hx ⊢
    try (simp (decide := true) only [ax, tabs, s0, Int.reduceToNat])
    repeat (first
      | refine AW.seq ?_
      | refine AW.blockS ?_
      | ((first | refine AW.skip ?_ | refine AW.exit ?_ | refine AW.opsN rfl ?_ | refine AW.ret ?_); try (simp (decide := true) only [ax, tabs, s0, Int.reduceToNat]))
      | (refine AW.condT ?_ ?_; (focus (simp (decide := true) only [ax, tabs, s0, Int.reduceToNat]; done)))
      | (refine AW.condF ?_ ?_; (focus (simp (decide := true) only [ax, tabs, s0, Int.reduceToNat]; done))))
    have hxl := lt_of_obj hx
    have hm : HM M (M ++ AO.mem [iv p, AV.fz 3 (List.map cv cs)] :: AO.mem [iv p, AV.fz 3 (List.map cv H)] :: (J1 ++ [AO.mem [iv p, AV.sl 3 ox 0 cs.length (cs.length * 3)]])) p cs [iv p, AV.fz 3 (List.map cv H)] ox (M.length + (J1.length + (1 + 1))) (cells cs) := by
      refine ⟨⟨List.prefix_append _ _, by simp, ?_, by simp, by simp at hxl; omega⟩, by simp, by omega⟩
      have := app_obj hx [AO.mem [iv p, AV.sl 3 ox 0 cs.length (cs.length * 3)]]
      simpa using this
    generalize M ++ AO.mem [iv p, AV.fz 3 (List.map cv cs)] :: AO.mem [iv p, AV.fz 3 (List.map cv H)] :: (J1 ++ [AO.mem [iv p, AV.sl 3 ox 0 cs.length (cs.length * 3)]]) = K at hm ⊢
    generalize M.length + (J1.length + (1 + 1)) = c6 at hm ⊢
    clear hx hxl hox
    refine (hlive ox K hm.lm.kx).mono ?_
    rintro _ K2 ⟨og, z, hog, hz, rfl, hg, J2, rfl⟩
    have gg : M.length + 1 < og ∧ og ≠ ox ∧ og ≠ c6 := by have := lt_of_obj hm.lm.kx; have := lt_of_obj hm.lm.k6; have := lt_of_obj hm.k4; omega
    replace hm := hm.app J2
    generalize K ++ J2 = K at *
    have a4 := fun X => app_obj hm.k4 X
    try (simp (decide := true) only [ax, tabs, s0, Int.reduceToNat, a4])
    repeat (first
      | refine AW.seq ?_
      | refine AW.blockS ?_
      | ((first | refine AW.skip ?_ | refine AW.exit ?_ | refine AW.opsN rfl ?_ | refine AW.ret ?_); try (simp (decide := true) only [ax, tabs, s0, Int.reduceToNat, a4]))
      | (refine AW.condT ?_ ?_; (focus (simp (decide := true) only [ax, tabs, s0, Int.reduceToNat, a4]; done)))
      | (refine AW.condF ?_ ?_; (focus (simp (decide := true) only [ax, tabs, s0, Int.reduceToNat, a4]; done))))
    have ag := fun X => app_obj hg X
    refine AC.det (eqPuzzle_lp p p H H z og _ (by omega) (ag _)) ?_
    rw [decide_eq_true ⟨rfl, rfl⟩]
    have k7 : (K ++ [AO.mem [iv p, AV.sl 3 og 0 H.length (cells H ++ z).length]])[K.length]? = some (.mem [iv p, AV.sl 3 og 0 H.length (cells H ++ z).length]) := by simp
    have g7 : M.length + 1 < K.length ∧ K.length ≠ ox ∧ K.length ≠ c6 ∧ K.length ≠ og := by have := lt_of_obj hm.lm.kx; have := lt_of_obj hm.lm.k6; have := lt_of_obj hm.k4; have := lt_of_obj hg; omega
    replace hm := hm.app [AO.mem [iv p, AV.sl 3 og 0 H.length (cells H ++ z).length]]
    replace hg := app_obj hg [AO.mem [iv p, AV.sl 3 og 0 H.length (cells H ++ z).length]]
    clear a4 ag
    generalize K.length = c7 at *
    generalize K ++ [AO.mem [iv p, AV.sl 3 og 0 H.length (cells H ++ z).length]] = K at *
    have k1 := hm.lm.k1
    have k6 := hm.lm.k6
    have k4 := hm.k4
    try (simp (decide := true) only [ax, tabs, s0, Int.reduceToNat, k1, k4, k6, k7, not_true_eq_false, ne_eq])
    repeat (first
      | refine AW.seq ?_
      | refine AW.blockS ?_
      | ((first | refine AW.skip ?_ | refine AW.exit ?_ | refine AW.opsN rfl ?_ | refine AW.ret ?_); try (simp (decide := true) only [ax, tabs, s0, Int.reduceToNat, k1, k4, k6, k7, not_true_eq_false, ne_eq]))
      | (refine AW.condT ?_ ?_; (focus (simp (decide := true) only [ax, tabs, s0, Int.reduceToNat, k1, k4, k6, k7, not_true_eq_false, ne_eq]; done)))
      | (refine AW.condF ?_ ?_; (focus (simp (decide := true) only [ax, tabs, s0, Int.reduceToNat, k1, k4, k6, k7, not_true_eq_false, ne_eq]; done))))
    repeat refine AW.seq ?_
    refine AW.draw Emix [0, 0, 0] [0, 0, 2, 7, 15] (by kernel_rfl) ?_
    simp (decide := true) only [ax, axd, tabs, s0, Int.reduceToNat, k1, k6]
    refine ⟨_, toPuzzle_fz p cs _ hl, ?_⟩
    try (simp (decide := true) only [ax, axd, tabs, s0, Int.reduceToNat, k1, k6])
    refine AC.det (eqPuzzle_lend p p cs cs ox _ (by omega) hm.lm.kx) ?_
    rw [hpc]
    try (simp (decide := true) only [ax, tabs, s0, Int.reduceToNat, k1, k6])
    repeat (first
      | refine AW.seq ?_
      | refine AW.blockS ?_
      | ((first | refine AW.skip ?_ | refine AW.exit ?_ | refine AW.opsN rfl ?_ | refine AW.ret ?_); try (simp (decide := true) only [ax, tabs, s0, Int.reduceToNat, k1, k6]))
      | (refine AW.condT ?_ ?_; (focus (simp (decide := true) only [ax, tabs, s0, Int.reduceToNat, k1, k6]; done)))
      | (refine AW.condF ?_ ?_; (focus (simp (decide := true) only [ax, tabs, s0, Int.reduceToNat, k1, k6]; done))))
    refine (markPuzzle_row p cs.length (cs.length * 3) (cells cs) 1 ox _ (by omega) (by omega) (Nat.le_refl _) (cells_length cs) hm.lm.kx).mono ?_
    rintro _ K3 ⟨rfl, cs', J3, hcs', rfl⟩
    have w3 : decide ((1 : Int) + 3 * (cs.length : Int) < 0) = false := decide_eq_false (by omega)
    replace k7 := app_obj ((List.getElem?_set_ne (a := AO.mem cs') (show ox ≠ c7 from fun h => g7.2.1 h.symm)).trans k7) J3
    replace hm := (hm.setx cs').app J3
    replace hg := app_obj ((List.getElem?_set_ne (a := AO.mem cs') (show ox ≠ og from fun h => gg.2.1 h.symm)).trans hg) J3
    generalize K.set ox (.mem cs') ++ J3 = K at *
    have k1 := hm.lm.k1
    have k6 := hm.lm.k6
    have k4 := hm.k4
    try (simp (decide := true) only [ax, tabs, s0, Int.reduceToNat, w3, k4, k7])
    repeat (first
      | refine AW.seq ?_
      | refine AW.blockS ?_
      | ((first | refine AW.skip ?_ | refine AW.exit ?_ | refine AW.opsN rfl ?_ | refine AW.ret ?_); try (simp (decide := true) only [ax, tabs, s0, Int.reduceToNat, w3, k4, k7]))
      | (refine AW.condT ?_ ?_; (focus (simp (decide := true) only [ax, tabs, s0, Int.reduceToNat, w3, k4, k7]; done)))
      | (refine AW.condF ?_ ?_; (focus (simp (decide := true) only [ax, tabs, s0, Int.reduceToNat, w3, k4, k7]; done))))
    refine AC.det (eqPuzzle_lp p p H H z og _ (by omega) hg) ?_
    rw [decide_eq_true ⟨rfl, rfl⟩]
    try (simp (decide := true) only [ax, tabs, s0, Int.reduceToNat, not_true_eq_false, ne_eq, k7, k4])
    repeat (first
      | refine AW.seq ?_
      | refine AW.blockS ?_
      | ((first | refine AW.skip ?_ | refine AW.exit ?_ | refine AW.opsN rfl ?_ | refine AW.ret ?_); try (simp (decide := true) only [ax, tabs, s0, Int.reduceToNat, not_true_eq_false, ne_eq, k7, k4]))
      | (refine AW.condT ?_ ?_; (focus (simp (decide := true) only [ax, tabs, s0, Int.reduceToNat, not_true_eq_false, ne_eq, k7, k4]; done)))
      | (refine AW.condF ?_ ?_; (focus (simp (decide := true) only [ax, tabs, s0, Int.reduceToNat, not_true_eq_false, ne_eq, k7, k4]; done))))
    refine (markPuzzle_marks p H.length (cells H ++ z).length (cells H ++ z) 1 og _ (by omega) (by omega) (by rw [List.length_append, cells_length]; omega) rfl hg).mono ?_
    rintro _ K4 ⟨rfl, J4, rfl⟩
    have hdz : (cells H ++ z).drop (H.length * 3) = z := by rw [← cells_length, List.drop_left]
    have hgl : (cells H ++ z).length = (cells (mkC 1 H.length) ++ z).length := by rw [List.length_append, List.length_append, cells_length, cells_length, mkC_length]
    rw [hdz]
    replace k7 := app_obj ((List.getElem?_set_ne (a := AO.mem (cells (mkC 1 H.length) ++ z)) (show og ≠ c7 from fun h => g7.2.2.2 h.symm)).trans k7) J4
    have hg2 : (K.set og (.mem (cells (mkC 1 H.length) ++ z)) ++ J4)[og]? = some (.mem (cells (mkC 1 H.length) ++ z)) := app_obj (List.getElem?_set_self (lt_of_obj hg)) J4
    replace hm := (hm.setg (og := og) (.mem (cells (mkC 1 H.length) ++ z)) gg).app J4
    clear hg
    generalize K.set og (.mem (cells (mkC 1 H.length) ++ z)) ++ J4 = K at *
    have k1 := hm.lm.k1
    have k6 := hm.lm.k6
    have k4 := hm.k4
    have n0 : decide ((1 : Int) + 3 * (H.length : Int) < 0) = false := decide_eq_false (by omega)
    try (simp (decide := true) only [ax, tabs, s0, Int.reduceToNat, k7])
    repeat (first
      | refine AW.seq ?_
      | refine AW.blockS ?_
      | ((first | refine AW.skip ?_ | refine AW.exit ?_ | refine AW.opsN rfl ?_ | refine AW.ret ?_); try (simp (decide := true) only [ax, tabs, s0, Int.reduceToNat, k7]))
      | (refine AW.condT ?_ ?_; (focus (simp (decide := true) only [ax, tabs, s0, Int.reduceToNat, k7]; done)))
      | (refine AW.condF ?_ ?_; (focus (simp (decide := true) only [ax, tabs, s0, Int.reduceToNat, k7]; done))))
    have hh := heldPuzzle_lp p 1 H.length og z K (by omega) (by omega) hg2
    rw [← hgl] at hh
    refine AC.det hh ?_
    have a4 := fun X => app_obj hm.k4 X
    have a7 := fun X => app_obj k7 X
    try (simp (decide := true) only [ax, tabs, s0, Int.reduceToNat, n0, k1, not_true_eq_false, ne_eq])
    repeat (first
      | refine AW.seq ?_
      | refine AW.blockS ?_
      | ((first | refine AW.skip ?_ | refine AW.exit ?_ | refine AW.opsN rfl ?_ | refine AW.ret ?_); try (simp (decide := true) only [ax, tabs, s0, Int.reduceToNat, n0, k1, not_true_eq_false, ne_eq]))
      | (refine AW.condT ?_ ?_; (focus (simp (decide := true) only [ax, tabs, s0, Int.reduceToNat, n0, k1, not_true_eq_false, ne_eq]; done)))
      | (refine AW.condF ?_ ?_; (focus (simp (decide := true) only [ax, tabs, s0, Int.reduceToNat, n0, k1, not_true_eq_false, ne_eq]; done))))
    refine AC.det (toPuzzle_fz p cs _ hl) ?_
    try (simp (decide := true) only [ax, tabs, s0, Int.reduceToNat])
    repeat (first
      | refine AW.seq ?_
      | refine AW.blockS ?_
      | ((first | refine AW.skip ?_ | refine AW.exit ?_ | refine AW.opsN rfl ?_ | refine AW.ret ?_); try (simp (decide := true) only [ax, tabs, s0, Int.reduceToNat]))
      | (refine AW.condT ?_ ?_; (focus (simp (decide := true) only [ax, tabs, s0, Int.reduceToNat]; done)))
      | (refine AW.condF ?_ ?_; (focus (simp (decide := true) only [ax, tabs, s0, Int.reduceToNat]; done))))
    refine AC.det (hfz _) ?_
    try (simp (decide := true) only [ax, tabs, s0, Int.reduceToNat, pv, a4])
    repeat (first
      | refine AW.seq ?_
      | refine AW.blockS ?_
      | ((first | refine AW.skip ?_ | refine AW.exit ?_ | refine AW.opsN rfl ?_ | refine AW.ret ?_); try (simp (decide := true) only [ax, tabs, s0, Int.reduceToNat, pv, a4]))
      | (refine AW.condT ?_ ?_; (focus (simp (decide := true) only [ax, tabs, s0, Int.reduceToNat, pv, a4]; done)))
      | (refine AW.condF ?_ ?_; (focus (simp (decide := true) only [ax, tabs, s0, Int.reduceToNat, pv, a4]; done))))
    refine AC.det (eqPuzzle_ok p p H H _ (by omega)) ?_
    rw [decide_eq_true ⟨rfl, rfl⟩]
    try (simp (decide := true) only [ax, tabs, s0, Int.reduceToNat, not_true_eq_false, ne_eq, a7])
    repeat (first
      | refine AW.seq ?_
      | refine AW.blockS ?_
      | ((first | refine AW.skip ?_ | refine AW.exit ?_ | refine AW.opsN rfl ?_ | refine AW.ret ?_); try (simp (decide := true) only [ax, tabs, s0, Int.reduceToNat, not_true_eq_false, ne_eq, a7]))
      | (refine AW.condT ?_ ?_; (focus (simp (decide := true) only [ax, tabs, s0, Int.reduceToNat, not_true_eq_false, ne_eq, a7]; done)))
      | (refine AW.condF ?_ ?_; (focus (simp (decide := true) only [ax, tabs, s0, Int.reduceToNat, not_true_eq_false, ne_eq, a7]; done))))
    have hh2 := heldPuzzle_lp p 1 H.length og z (K ++ [AO.mem [iv p, AV.fz 3 (List.map cv H)]]) (by omega) (by omega) (app_obj hg2 _)
    rw [← hgl] at hh2
    refine AC.det hh2 ?_
    try (simp (decide := true) only [ax, tabs, s0, Int.reduceToNat, n0, not_true_eq_false, ne_eq])
    repeat (first
      | refine AW.seq ?_
      | refine AW.blockS ?_
      | ((first | refine AW.skip ?_ | refine AW.exit ?_ | refine AW.opsN rfl ?_ | refine AW.ret ?_); try (simp (decide := true) only [ax, tabs, s0, Int.reduceToNat, n0, not_true_eq_false, ne_eq]))
      | (refine AW.condT ?_ ?_; (focus (simp (decide := true) only [ax, tabs, s0, Int.reduceToNat, n0, not_true_eq_false, ne_eq]; done)))
      | (refine AW.condF ?_ ?_; (focus (simp (decide := true) only [ax, tabs, s0, Int.reduceToNat, n0, not_true_eq_false, ne_eq]; done))))
    obtain ⟨J, rfl⟩ := hm.lm.pre
    rw [List.append_assoc]
    first
      | refine leftJ (.inr rfl) hcl (Nat.le_refl _) (by simp (decide := true) only [ax, tabs, s0, Int.reduceToNat]; rfl) ?_ rfl ⟨rfl, rfl⟩
      | refine leftS (.inr rfl) hcl (Nat.le_refl _) (by simp (decide := true) only [ax, tabs, s0, Int.reduceToNat]; rfl) ?_ rfl ⟨rfl, rfl⟩
    simp (decide := true) only [ax, tabs, s0, Int.reduceToNat]
end Go.Ax
