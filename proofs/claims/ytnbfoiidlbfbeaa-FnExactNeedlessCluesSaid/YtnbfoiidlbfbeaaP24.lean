/- The law of needless clues. -/
import Derived.Test.YtnbfoiidlbfbeaaP23
set_option linter.unusedVariables false
set_option linter.unusedSimpArgs false
namespace Go.Ax
open Go.Proofs

theorem NeedlessClues_fz (p : Int) (cs : List Clu) (M : List AO) (hl : cs.length ≤ 2000000) (hv : isPuzF p cs = true) :
    AC E 7 [pv p cs] M (fun r M' => r = .tup [.fz 1 (ints (needTo p.toNat cs cs.length)), .bool true] ∧ M' = M) :=
  .freeze ((NeedlessClues_ok p cs M hl hv).mono fun r M' ⟨h1, h2, J, h3⟩ => by
    subst h3
    refine ⟨J, _, rfl, ?_, rfl, rfl⟩
    rw [h1]
    exact tell_tup (.cons (tell_ints h2 (by omega)) (.cons (.scal rfl) .nil)))
theorem NeedlessClues_no (p : Int) (cs : List Clu) (M : List AO) (hl : cs.length ≤ 2000000) (hv : isPuzF p cs = false) :
    AC E 7 [pv p cs] M (fun r M' => r = .tup [.nils, .bool false] ∧ M' = M) := by
  refine AC.body (fn := Try.f7) Try.func7 rfl rfl (by simp [Try.f7]) fun hcl => ?_
  simp only [Try.f7]
  try (simp (decide := true) only [ax, tabs, s0, Int.reduceToNat, pv])
  repeat (first
    | refine AW.seq ?_
    | refine AW.blockS ?_
    | ((first | refine AW.skip ?_ | refine AW.exit ?_ | refine AW.opsN rfl ?_ | refine AW.ret ?_); try (simp (decide := true) only [ax, tabs, s0, Int.reduceToNat, pv]))
    | (refine AW.condT ?_ ?_; (focus (simp (decide := true) only [ax, tabs, s0, Int.reduceToNat, pv]; done)))
    | (refine AW.condF ?_ ?_; (focus (simp (decide := true) only [ax, tabs, s0, Int.reduceToNat, pv]; done))))
  refine AC.det (IsPuzzle_ok p cs _ hl) ?_
  rw [hv]
  try (simp (decide := true) only [ax, tabs, s0, Int.reduceToNat])
  repeat (first
    | refine AW.seq ?_
    | refine AW.blockS ?_
    | ((first | refine AW.skip ?_ | refine AW.exit ?_ | refine AW.opsN rfl ?_ | refine AW.ret ?_); try (simp (decide := true) only [ax, tabs, s0, Int.reduceToNat]))
    | (refine AW.condT ?_ ?_; (focus (simp (decide := true) only [ax, tabs, s0, Int.reduceToNat]; done)))
    | (refine AW.condF ?_ ?_; (focus (simp (decide := true) only [ax, tabs, s0, Int.reduceToNat]; done))))
  first
    | refine leftJ (.inr rfl) hcl (Nat.le_refl _) (by simp (decide := true) only [ax, tabs, s0, Int.reduceToNat]; rfl) ?_ rfl ⟨rfl, rfl⟩
    | refine leftS (.inr rfl) hcl (Nat.le_refl _) (by simp (decide := true) only [ax, tabs, s0, Int.reduceToNat]; rfl) ?_ rfl ⟨rfl, rfl⟩
  simp (decide := true) only [ax, tabs, s0, Int.reduceToNat]
theorem tell_live {K : List AO} {o : Nat} {p : Int} {cs : List Clu} (ho : K[o]? = some (.mem (cells cs))) : TellL K 0 [.agg [iv p, .sl 3 o 0 cs.length (cs.length * 3)]] [pv p cs] :=
  .cons (tell_agg (.cons (.scal rfl) (.cons (tell_clues ho (Nat.zero_le _)) .nil))) .nil
theorem Needless_live (p : Int) (cs : List Clu) (o : Nat) (K : List AO) (hl : cs.length ≤ 2000000) (hv : isPuzF p cs = true) (ho : K[o]? = some (.mem (cells cs))) :
    AC E 7 [.agg [iv p, .sl 3 o 0 cs.length (cs.length * 3)]] K (fun r M' => r = .tup [.sl 1 (K.length + 1) 0 (needTo p.toNat cs cs.length).length (needTo p.toNat cs cs.length).length, .bool true] ∧ M'[K.length + 1]? = some (.mem (ints (needTo p.toNat cs cs.length))) ∧ K <+: M') :=
  (AC.lend1 (o := 1) (v := .tup [.sl 1 1 0 (needTo p.toNat cs cs.length).length (needTo p.toNat cs cs.length).length, .bool true]) (cs := ints (needTo p.toNat cs cs.length)) (tell_live ho) ((NeedlessClues_ok p cs [] hl hv).mono fun r M' h => by
      obtain ⟨h1, h2, _⟩ := h
      simp only [List.length_nil, Nat.zero_add] at h1 h2
      exact ⟨h1, h2⟩) (fun i a ha => by
      simp only [ints, List.getElem?_map] at ha
      obtain ⟨x, _, rfl⟩ := Option.map_eq_some_iff.1 ha
      rfl) (.tup' (.cons (.sl ..) (.cons (.scal rfl) .nil)))).mono fun r M' ⟨h1, len, h2, h3⟩ => by
    subst h3
    exact ⟨h1, onlyAt_get h2, List.prefix_append _ _⟩
theorem Needless_live_no (p : Int) (cs : List Clu) (o : Nat) (K : List AO) (hl : cs.length ≤ 2000000) (hv : isPuzF p cs = false) (ho : K[o]? = some (.mem (cells cs))) :
    AC E 7 [.agg [iv p, .sl 3 o 0 cs.length (cs.length * 3)]] K (fun r M' => r = .tup [.nils, .bool false] ∧ M' = K) :=
  .lend (tell_live ho) (NeedlessClues_no p cs [] hl hv) rfl
/-- The memory of the law: its argument, the puzzle made of it, where that stands. -/
structure LM (M K : List AO) (p : Int) (cs : List Clu) (ox c6 : Nat) (X : List AV) : Prop where
  pre : M <+: K
  k1 : K[M.length]? = some (.mem [iv p, .fz 3 (cs.map cv)])
  kx : K[ox]? = some (.mem X)
  k6 : K[c6]? = some (.mem [iv p, .sl 3 ox 0 cs.length (cs.length * 3)])
  ge : M.length < ox ∧ M.length < c6 ∧ ox ≠ c6
theorem LM.app {M K : List AO} {p : Int} {cs : List Clu} {ox c6 : Nat} {X : List AV} (h : LM M K p cs ox c6 X) (Y : List AO) : LM M (K ++ Y) p cs ox c6 X :=
  ⟨h.pre.trans (List.prefix_append _ _), app_obj h.k1 Y, app_obj h.kx Y, app_obj h.k6 Y, h.ge⟩
theorem pre_set {M K : List AO} (h : M <+: K) {o : Nat} (ho : M.length ≤ o) (x : AO) : M <+: K.set o x := by
  obtain ⟨J, rfl⟩ := h
  exact set_keep ho
theorem LM.setx {M K : List AO} {p : Int} {cs : List Clu} {ox c6 : Nat} {X : List AV} (h : LM M K p cs ox c6 X) (X' : List AV) : LM M (K.set ox (.mem X')) p cs ox c6 X' := by
  have := h.ge
  exact ⟨pre_set h.pre (by omega) _, by rw [List.getElem?_set_ne (by omega)]; exact h.k1, List.getElem?_set_self (lt_of_obj h.kx), by rw [List.getElem?_set_ne (by omega)]; exact h.k6, h.ge⟩
theorem LM.setg {M K : List AO} {p : Int} {cs : List Clu} {ox c6 og : Nat} {X : List AV} (h : LM M K p cs ox c6 X) (x : AO) (hg : M.length < og ∧ og ≠ ox ∧ og ≠ c6) : LM M (K.set og x) p cs ox c6 X :=
  ⟨pre_set h.pre (by omega) _, by rw [List.getElem?_set_ne (by omega)]; exact h.k1, by rw [List.getElem?_set_ne (by omega)]; exact h.kx, by rw [List.getElem?_set_ne (by omega)]; exact h.k6, h.ge⟩
set_option maxHeartbeats 4000000 in
theorem FnNeedless_ok (p : Int) (cs : List Clu) (M : List AO) (hc : cs.length ≤ 9223372036854775807) : AC E 3 [pv p cs] M (fun r M' => r = .bool true ∧ M' = M) := by
  refine AC.body (fn := Try.f3) Try.func3 rfl rfl (by simp [Try.f3]) fun hcl => ?_
  simp only [Try.f3]
  try (simp (decide := true) only [ax, tabs, s0, Int.reduceToNat, pv])
  repeat (first
    | refine AW.seq ?_
    | refine AW.blockS ?_
    | ((first | refine AW.skip ?_ | refine AW.exit ?_ | refine AW.opsN rfl ?_ | refine AW.ret ?_); try (simp (decide := true) only [ax, tabs, s0, Int.reduceToNat, pv]))
    | (refine AW.condT ?_ ?_; (focus (simp (decide := true) only [ax, tabs, s0, Int.reduceToNat, pv]; done)))
    | (refine AW.condF ?_ ?_; (focus (simp (decide := true) only [ax, tabs, s0, Int.reduceToNat, pv]; done))))
  refine AC.det (szPuzzle_ok p cs 1048576 _ (by omega) hc) ?_
  by_cases hb : (1048576 : Int) - cs.length < 0
  · rw [if_pos hb]
    try (simp (decide := true) only [ax, tabs, s0, Int.reduceToNat])
    repeat (first
      | refine AW.seq ?_
      | refine AW.blockS ?_
      | ((first | refine AW.skip ?_ | refine AW.exit ?_ | refine AW.opsN rfl ?_ | refine AW.ret ?_); try (simp (decide := true) only [ax, tabs, s0, Int.reduceToNat]))
      | (refine AW.condT ?_ ?_; (focus (simp (decide := true) only [ax, tabs, s0, Int.reduceToNat]; done)))
      | (refine AW.condF ?_ ?_; (focus (simp (decide := true) only [ax, tabs, s0, Int.reduceToNat]; done))))
    first
      | refine leftJ (.inr rfl) hcl (Nat.le_refl _) (by simp (decide := true) only [ax, tabs, s0, Int.reduceToNat]; rfl) ?_ rfl ⟨rfl, rfl⟩
      | refine leftS (.inr rfl) hcl (Nat.le_refl _) (by simp (decide := true) only [ax, tabs, s0, Int.reduceToNat]; rfl) ?_ rfl ⟨rfl, rfl⟩
    simp (decide := true) only [ax, tabs, s0, Int.reduceToNat]
  rw [if_neg hb]
  have hb' : decide ((1048576 : Int) - cs.length < 0) = false := decide_eq_false hb
  have hl : cs.length ≤ 2000000 := by omega
  try (simp (decide := true) only [ax, tabs, s0, Int.reduceToNat, hb'])
  repeat (first
    | refine AW.seq ?_
    | refine AW.blockS ?_
    | ((first | refine AW.skip ?_ | refine AW.exit ?_ | refine AW.opsN rfl ?_ | refine AW.ret ?_); try (simp (decide := true) only [ax, tabs, s0, Int.reduceToNat, hb']))
    | (refine AW.condT ?_ ?_; (focus (simp (decide := true) only [ax, tabs, s0, Int.reduceToNat, hb']; done)))
    | (refine AW.condF ?_ ?_; (focus (simp (decide := true) only [ax, tabs, s0, Int.reduceToNat, hb']; done))))
  refine AC.det (toPuzzle_fz p cs _ hl) ?_
  try (simp (decide := true) only [ax, tabs, s0, Int.reduceToNat])
  repeat (first
    | refine AW.seq ?_
    | refine AW.blockS ?_
    | ((first | refine AW.skip ?_ | refine AW.exit ?_ | refine AW.opsN rfl ?_ | refine AW.ret ?_); try (simp (decide := true) only [ax, tabs, s0, Int.reduceToNat]))
    | (refine AW.condT ?_ ?_; (focus (simp (decide := true) only [ax, tabs, s0, Int.reduceToNat]; done)))
    | (refine AW.condF ?_ ?_; (focus (simp (decide := true) only [ax, tabs, s0, Int.reduceToNat]; done))))
  refine AC.det (specNeedless_ok p cs _ hl) ?_
  have hpc : decide (p = p ∧ cs = cs) = true := decide_eq_true ⟨rfl, rfl⟩
  cases hv : isPuzF p cs with
  | true =>
    have hL := needTo_length p.toNat cs cs.length
    have hlive := fun o K => Needless_live p cs o K hl hv
    have hfz := fun K => NeedlessClues_fz p cs K hl hv
    generalize needTo p.toNat cs cs.length = L at *
    try (simp (decide := true) only [ax, tabs, s0, Int.reduceToNat])
    repeat (first
      | refine AW.seq ?_
      | refine AW.blockS ?_
      | ((first | refine AW.skip ?_ | refine AW.exit ?_ | refine AW.opsN rfl ?_ | refine AW.ret ?_); try (simp (decide := true) only [ax, tabs, s0, Int.reduceToNat]))
      | (refine AW.condT ?_ ?_; (focus (simp (decide := true) only [ax, tabs, s0, Int.reduceToNat]; done)))
      | (refine AW.condF ?_ ?_; (focus (simp (decide := true) only [ax, tabs, s0, Int.reduceToNat]; done))))
    refine (toPuzzle_row p cs _ hl).mono ?_
    rintro _ M1 ⟨rfl, hx, J1, rfl⟩
    simp only [List.append_assoc, List.cons_append, List.nil_append, List.length_append, List.length_cons, List.length_nil, Nat.add_assoc] at hx ⊢
    generalize hox : M.length + (0 + 1 + 3) = ox at hx ⊢
    try (simp (decide := true) only [ax, tabs, s0, Int.reduceToNat])
    repeat (first
      | refine AW.seq ?_
      | refine AW.blockS ?_
      | ((first | refine AW.skip ?_ | refine AW.exit ?_ | refine AW.opsN rfl ?_ | refine AW.ret ?_); try (simp (decide := true) only [ax, tabs, s0, Int.reduceToNat]))
      | (refine AW.condT ?_ ?_; (focus (simp (decide := true) only [ax, tabs, s0, Int.reduceToNat]; done)))
      | (refine AW.condF ?_ ?_; (focus (simp (decide := true) only [ax, tabs, s0, Int.reduceToNat]; done))))
    have hxl := lt_of_obj hx
    have lm : LM M (M ++ AO.mem [iv p, AV.fz 3 (List.map cv cs)] :: (J1 ++ [AO.mem [iv p, AV.sl 3 ox 0 cs.length (cs.length * 3)]])) p cs ox (M.length + (J1.length + 1)) (cells cs) := by
      refine ⟨List.prefix_append _ _, by simp, ?_, by simp, by simp at hxl; omega⟩
      have := app_obj hx [AO.mem [iv p, AV.sl 3 ox 0 cs.length (cs.length * 3)]]
      simpa using this
    generalize M ++ AO.mem [iv p, AV.fz 3 (List.map cv cs)] :: (J1 ++ [AO.mem [iv p, AV.sl 3 ox 0 cs.length (cs.length * 3)]]) = K at lm ⊢
    generalize M.length + (J1.length + 1) = c6 at lm ⊢
    clear hx hxl hox
    refine (hlive ox K lm.kx).mono ?_
    rintro _ K2 ⟨rfl, hg, J2, rfl⟩
    have lg : M.length < K.length + 1 ∧ K.length + 1 ≠ ox ∧ K.length + 1 ≠ c6 := by have := lt_of_obj lm.k1; have := lt_of_obj lm.kx; have := lt_of_obj lm.k6; omega
    replace lm := lm.app J2
    generalize K.length + 1 = og at hg lg ⊢
    generalize K ++ J2 = K at *
    have k1 := lm.k1
    have k6 := lm.k6
    try (simp (decide := true) only [ax, tabs, s0, Int.reduceToNat])
    repeat (first
      | refine AW.seq ?_
      | refine AW.blockS ?_
      | ((first | refine AW.skip ?_ | refine AW.exit ?_ | refine AW.opsN rfl ?_ | refine AW.ret ?_); try (simp (decide := true) only [ax, tabs, s0, Int.reduceToNat]))
      | (refine AW.condT ?_ ?_; (focus (simp (decide := true) only [ax, tabs, s0, Int.reduceToNat]; done)))
      | (refine AW.condF ?_ ?_; (focus (simp (decide := true) only [ax, tabs, s0, Int.reduceToNat]; done))))
    refine AC.det (eqIntS_lend L L og _ (by omega) hg) ?_
    rw [decide_eq_true rfl]
    try (simp (decide := true) only [ax, tabs, s0, Int.reduceToNat, not_true_eq_false, ne_eq])
    repeat (first
      | refine AW.seq ?_
      | refine AW.blockS ?_
      | ((first | refine AW.skip ?_ | refine AW.exit ?_ | refine AW.opsN rfl ?_ | refine AW.ret ?_); try (simp (decide := true) only [ax, tabs, s0, Int.reduceToNat, not_true_eq_false, ne_eq]))
      | (refine AW.condT ?_ ?_; (focus (simp (decide := true) only [ax, tabs, s0, Int.reduceToNat, not_true_eq_false, ne_eq]; done)))
      | (refine AW.condF ?_ ?_; (focus (simp (decide := true) only [ax, tabs, s0, Int.reduceToNat, not_true_eq_false, ne_eq]; done))))
    repeat refine AW.seq ?_
    refine AW.draw Emix [0, 0, 0] [0, 0, 2, 7, 15] (by kernel_rfl) ?_
    simp (decide := true) only [ax, axd, tabs, s0, Int.reduceToNat, k1, k6]
    refine ⟨_, toPuzzle_fz p cs _ hl, ?_⟩
    try (simp (decide := true) only [ax, axd, tabs, s0, Int.reduceToNat, k1, k6])
    refine AC.det (eqPuzzle_lend p p cs cs ox _ (by omega) lm.kx) ?_
    rw [hpc]
    try (simp (decide := true) only [ax, tabs, s0, Int.reduceToNat, k1, k6])
    repeat (first
      | refine AW.seq ?_
      | refine AW.blockS ?_
      | ((first | refine AW.skip ?_ | refine AW.exit ?_ | refine AW.opsN rfl ?_ | refine AW.ret ?_); try (simp (decide := true) only [ax, tabs, s0, Int.reduceToNat, k1, k6]))
      | (refine AW.condT ?_ ?_; (focus (simp (decide := true) only [ax, tabs, s0, Int.reduceToNat, k1, k6]; done)))
      | (refine AW.condF ?_ ?_; (focus (simp (decide := true) only [ax, tabs, s0, Int.reduceToNat, k1, k6]; done))))
    refine (markPuzzle_row p cs.length (cs.length * 3) (cells cs) 1 ox _ (by omega) (by omega) (Nat.le_refl _) (cells_length cs) lm.kx).mono ?_
    rintro _ K3 ⟨rfl, cs', J3, hcs', rfl⟩
    have w3 : decide ((1 : Int) + 3 * (cs.length : Int) < 0) = false := decide_eq_false (by omega)
    replace lm := (lm.setx cs').app J3
    have hg : (K.set ox (.mem cs') ++ J3)[og]? = some (.mem (ints L)) := app_obj (by rw [List.getElem?_set_ne (by omega)]; exact hg) J3
    generalize K.set ox (.mem cs') ++ J3 = K at *
    have k1 := lm.k1
    have k6 := lm.k6
    try (simp (decide := true) only [ax, tabs, s0, Int.reduceToNat, w3])
    repeat (first
      | refine AW.seq ?_
      | refine AW.blockS ?_
      | ((first | refine AW.skip ?_ | refine AW.exit ?_ | refine AW.opsN rfl ?_ | refine AW.ret ?_); try (simp (decide := true) only [ax, tabs, s0, Int.reduceToNat, w3]))
      | (refine AW.condT ?_ ?_; (focus (simp (decide := true) only [ax, tabs, s0, Int.reduceToNat, w3]; done)))
      | (refine AW.condF ?_ ?_; (focus (simp (decide := true) only [ax, tabs, s0, Int.reduceToNat, w3]; done))))
    refine AC.det (eqIntS_lend L L og _ (by omega) hg) ?_
    rw [decide_eq_true rfl]
    try (simp (decide := true) only [ax, tabs, s0, Int.reduceToNat, not_true_eq_false, ne_eq])
    repeat (first
      | refine AW.seq ?_
      | refine AW.blockS ?_
      | ((first | refine AW.skip ?_ | refine AW.exit ?_ | refine AW.opsN rfl ?_ | refine AW.ret ?_); try (simp (decide := true) only [ax, tabs, s0, Int.reduceToNat, not_true_eq_false, ne_eq]))
      | (refine AW.condT ?_ ?_; (focus (simp (decide := true) only [ax, tabs, s0, Int.reduceToNat, not_true_eq_false, ne_eq]; done)))
      | (refine AW.condF ?_ ?_; (focus (simp (decide := true) only [ax, tabs, s0, Int.reduceToNat, not_true_eq_false, ne_eq]; done))))
    refine AC.det (markIntS_row L 1 og _ (by omega) (by omega) hg) ?_
    replace lm := lm.setg (og := og) (.mem (ints (marks 1 L.length))) lg
    have hg : (K.set og (.mem (ints (marks 1 L.length))))[og]? = some (.mem (ints (marks 1 L.length))) := List.getElem?_set_self (lt_of_obj hg)
    generalize K.set og (.mem (ints (marks 1 L.length))) = K at *
    have k1 := lm.k1
    have k6 := lm.k6
    try (simp (decide := true) only [ax, tabs, s0, Int.reduceToNat])
    repeat (first
      | refine AW.seq ?_
      | refine AW.blockS ?_
      | ((first | refine AW.skip ?_ | refine AW.exit ?_ | refine AW.opsN rfl ?_ | refine AW.ret ?_); try (simp (decide := true) only [ax, tabs, s0, Int.reduceToNat]))
      | (refine AW.condT ?_ ?_; (focus (simp (decide := true) only [ax, tabs, s0, Int.reduceToNat]; done)))
      | (refine AW.condF ?_ ?_; (focus (simp (decide := true) only [ax, tabs, s0, Int.reduceToNat]; done))))
    refine AC.det (heldIntS_lend 1 L.length og _ (by omega) (by omega) hg) ?_
    have n0 : decide ((1 : Int) + (L.length : Int) < 0) = false := decide_eq_false (by omega)
    try (simp (decide := true) only [ax, tabs, s0, Int.reduceToNat, n0, k1, not_true_eq_false, ne_eq])
    repeat (first
      | refine AW.seq ?_
      | refine AW.blockS ?_
      | ((first | refine AW.skip ?_ | refine AW.exit ?_ | refine AW.opsN rfl ?_ | refine AW.ret ?_); try (simp (decide := true) only [ax, tabs, s0, Int.reduceToNat, n0, k1, not_true_eq_false, ne_eq]))
      | (refine AW.condT ?_ ?_; (focus (simp (decide := true) only [ax, tabs, s0, Int.reduceToNat, n0, k1, not_true_eq_false, ne_eq]; done)))
      | (refine AW.condF ?_ ?_; (focus (simp (decide := true) only [ax, tabs, s0, Int.reduceToNat, n0, k1, not_true_eq_false, ne_eq]; done))))
    refine AC.det (toPuzzle_fz p cs _ hl) ?_
    try (simp (decide := true) only [ax, tabs, s0, Int.reduceToNat])
    repeat (first
      | refine AW.seq ?_
      | refine AW.blockS ?_
      | ((first | refine AW.skip ?_ | refine AW.exit ?_ | refine AW.opsN rfl ?_ | refine AW.ret ?_); try (simp (decide := true) only [ax, tabs, s0, Int.reduceToNat]))
      | (refine AW.condT ?_ ?_; (focus (simp (decide := true) only [ax, tabs, s0, Int.reduceToNat]; done)))
      | (refine AW.condF ?_ ?_; (focus (simp (decide := true) only [ax, tabs, s0, Int.reduceToNat]; done))))
    refine AC.det (hfz _) ?_
    try (simp (decide := true) only [ax, tabs, s0, Int.reduceToNat])
    repeat (first
      | refine AW.seq ?_
      | refine AW.blockS ?_
      | ((first | refine AW.skip ?_ | refine AW.exit ?_ | refine AW.opsN rfl ?_ | refine AW.ret ?_); try (simp (decide := true) only [ax, tabs, s0, Int.reduceToNat]))
      | (refine AW.condT ?_ ?_; (focus (simp (decide := true) only [ax, tabs, s0, Int.reduceToNat]; done)))
      | (refine AW.condF ?_ ?_; (focus (simp (decide := true) only [ax, tabs, s0, Int.reduceToNat]; done))))
    refine AC.det (eqIntS_ok L L _ (by omega)) ?_
    rw [decide_eq_true rfl]
    try (simp (decide := true) only [ax, tabs, s0, Int.reduceToNat, not_true_eq_false, ne_eq])
    repeat (first
      | refine AW.seq ?_
      | refine AW.blockS ?_
      | ((first | refine AW.skip ?_ | refine AW.exit ?_ | refine AW.opsN rfl ?_ | refine AW.ret ?_); try (simp (decide := true) only [ax, tabs, s0, Int.reduceToNat, not_true_eq_false, ne_eq]))
      | (refine AW.condT ?_ ?_; (focus (simp (decide := true) only [ax, tabs, s0, Int.reduceToNat, not_true_eq_false, ne_eq]; done)))
      | (refine AW.condF ?_ ?_; (focus (simp (decide := true) only [ax, tabs, s0, Int.reduceToNat, not_true_eq_false, ne_eq]; done))))
    refine AC.det (heldIntS_lend 1 L.length og _ (by omega) (by omega) hg) ?_
    try (simp (decide := true) only [ax, tabs, s0, Int.reduceToNat, n0, not_true_eq_false, ne_eq])
    repeat (first
      | refine AW.seq ?_
      | refine AW.blockS ?_
      | ((first | refine AW.skip ?_ | refine AW.exit ?_ | refine AW.opsN rfl ?_ | refine AW.ret ?_); try (simp (decide := true) only [ax, tabs, s0, Int.reduceToNat, n0, not_true_eq_false, ne_eq]))
      | (refine AW.condT ?_ ?_; (focus (simp (decide := true) only [ax, tabs, s0, Int.reduceToNat, n0, not_true_eq_false, ne_eq]; done)))
      | (refine AW.condF ?_ ?_; (focus (simp (decide := true) only [ax, tabs, s0, Int.reduceToNat, n0, not_true_eq_false, ne_eq]; done))))
    obtain ⟨J, rfl⟩ := lm.pre
    first
      | refine leftJ (.inr rfl) hcl (Nat.le_refl _) (by simp (decide := true) only [ax, tabs, s0, Int.reduceToNat]; rfl) ?_ rfl ⟨rfl, rfl⟩
      | refine leftS (.inr rfl) hcl (Nat.le_refl _) (by simp (decide := true) only [ax, tabs, s0, Int.reduceToNat]; rfl) ?_ rfl ⟨rfl, rfl⟩
    simp (decide := true) only [ax, tabs, s0, Int.reduceToNat]
  | false =>
    try (simp (decide := true) only [ax, tabs, s0, Int.reduceToNat])
    repeat (first
      | refine AW.seq ?_
      | refine AW.blockS ?_
      | ((first | refine AW.skip ?_ | refine AW.exit ?_ | refine AW.opsN rfl ?_ | refine AW.ret ?_); try (simp (decide := true) only [ax, tabs, s0, Int.reduceToNat]))
      | (refine AW.condT ?_ ?_; (focus (simp (decide := true) only [ax, tabs, s0, Int.reduceToNat]; done)))
      | (refine AW.condF ?_ ?_; (focus (simp (decide := true) only [ax, tabs, s0, Int.reduceToNat]; done))))
    refine (toPuzzle_row p cs _ hl).mono ?_
    rintro _ M1 ⟨rfl, hx, J1, rfl⟩
    simp only [List.append_assoc, List.cons_append, List.nil_append, List.length_append, List.length_cons, List.length_nil, Nat.add_assoc] at hx ⊢
    generalize hox : M.length + (0 + 1 + 3) = ox at hx ⊢
    try (simp (decide := true) only [ax, tabs, s0, Int.reduceToNat])
    repeat (first
      | refine AW.seq ?_
      | refine AW.blockS ?_
      | ((first | refine AW.skip ?_ | refine AW.exit ?_ | refine AW.opsN rfl ?_ | refine AW.ret ?_); try (simp (decide := true) only [ax, tabs, s0, Int.reduceToNat]))
      | (refine AW.condT ?_ ?_; (focus (simp (decide := true) only [ax, tabs, s0, Int.reduceToNat]; done)))
      | (refine AW.condF ?_ ?_; (focus (simp (decide := true) only [ax, tabs, s0, Int.reduceToNat]; done))))
    have hxl := lt_of_obj hx
    have lm : LM M (M ++ AO.mem [iv p, AV.fz 3 (List.map cv cs)] :: (J1 ++ [AO.mem [iv p, AV.sl 3 ox 0 cs.length (cs.length * 3)]])) p cs ox (M.length + (J1.length + 1)) (cells cs) := by
      refine ⟨List.prefix_append _ _, by simp, ?_, by simp, by simp at hxl; omega⟩
      have := app_obj hx [AO.mem [iv p, AV.sl 3 ox 0 cs.length (cs.length * 3)]]
      simpa using this
    generalize M ++ AO.mem [iv p, AV.fz 3 (List.map cv cs)] :: (J1 ++ [AO.mem [iv p, AV.sl 3 ox 0 cs.length (cs.length * 3)]]) = K at lm ⊢
    generalize M.length + (J1.length + 1) = c6 at lm ⊢
    clear hx hxl hox
    refine AC.det (Needless_live_no p cs ox K hl hv lm.kx) ?_
    have k1 := lm.k1
    have k6 := lm.k6
    try (simp (decide := true) only [ax, tabs, s0, Int.reduceToNat])
    repeat (first
      | refine AW.seq ?_
      | refine AW.blockS ?_
      | ((first | refine AW.skip ?_ | refine AW.exit ?_ | refine AW.opsN rfl ?_ | refine AW.ret ?_); try (simp (decide := true) only [ax, tabs, s0, Int.reduceToNat]))
      | (refine AW.condT ?_ ?_; (focus (simp (decide := true) only [ax, tabs, s0, Int.reduceToNat]; done)))
      | (refine AW.condF ?_ ?_; (focus (simp (decide := true) only [ax, tabs, s0, Int.reduceToNat]; done))))
    refine AC.det (eqIntS_nil [] _) ?_
    rw [decide_eq_true rfl]
    try (simp (decide := true) only [ax, tabs, s0, Int.reduceToNat, not_true_eq_false, ne_eq])
    repeat (first
      | refine AW.seq ?_
      | refine AW.blockS ?_
      | ((first | refine AW.skip ?_ | refine AW.exit ?_ | refine AW.opsN rfl ?_ | refine AW.ret ?_); try (simp (decide := true) only [ax, tabs, s0, Int.reduceToNat, not_true_eq_false, ne_eq]))
      | (refine AW.condT ?_ ?_; (focus (simp (decide := true) only [ax, tabs, s0, Int.reduceToNat, not_true_eq_false, ne_eq]; done)))
      | (refine AW.condF ?_ ?_; (focus (simp (decide := true) only [ax, tabs, s0, Int.reduceToNat, not_true_eq_false, ne_eq]; done))))
    repeat refine AW.seq ?_
    refine AW.draw Emix [0, 0, 0] [0, 0, 2, 7, 15] (by kernel_rfl) ?_
    simp (decide := true) only [ax, axd, tabs, s0, Int.reduceToNat, k1, k6]
    refine ⟨_, toPuzzle_fz p cs _ hl, ?_⟩
    try (simp (decide := true) only [ax, axd, tabs, s0, Int.reduceToNat, k1, k6])
    refine AC.det (eqPuzzle_lend p p cs cs ox _ (by omega) lm.kx) ?_
    rw [hpc]
    try (simp (decide := true) only [ax, tabs, s0, Int.reduceToNat, k1, k6])
    repeat (first
      | refine AW.seq ?_
      | refine AW.blockS ?_
      | ((first | refine AW.skip ?_ | refine AW.exit ?_ | refine AW.opsN rfl ?_ | refine AW.ret ?_); try (simp (decide := true) only [ax, tabs, s0, Int.reduceToNat, k1, k6]))
      | (refine AW.condT ?_ ?_; (focus (simp (decide := true) only [ax, tabs, s0, Int.reduceToNat, k1, k6]; done)))
      | (refine AW.condF ?_ ?_; (focus (simp (decide := true) only [ax, tabs, s0, Int.reduceToNat, k1, k6]; done))))
    refine (markPuzzle_row p cs.length (cs.length * 3) (cells cs) 1 ox _ (by omega) (by omega) (Nat.le_refl _) (cells_length cs) lm.kx).mono ?_
    rintro _ K3 ⟨rfl, cs', J3, hcs', rfl⟩
    have w3 : decide ((1 : Int) + 3 * (cs.length : Int) < 0) = false := decide_eq_false (by omega)
    replace lm := (lm.setx cs').app J3
    generalize K.set ox (.mem cs') ++ J3 = K at *
    have k1 := lm.k1
    have k6 := lm.k6
    try (simp (decide := true) only [ax, tabs, s0, Int.reduceToNat, w3])
    repeat (first
      | refine AW.seq ?_
      | refine AW.blockS ?_
      | ((first | refine AW.skip ?_ | refine AW.exit ?_ | refine AW.opsN rfl ?_ | refine AW.ret ?_); try (simp (decide := true) only [ax, tabs, s0, Int.reduceToNat, w3]))
      | (refine AW.condT ?_ ?_; (focus (simp (decide := true) only [ax, tabs, s0, Int.reduceToNat, w3]; done)))
      | (refine AW.condF ?_ ?_; (focus (simp (decide := true) only [ax, tabs, s0, Int.reduceToNat, w3]; done))))
    refine AC.det (eqIntS_nil [] _) ?_
    rw [decide_eq_true rfl]
    try (simp (decide := true) only [ax, tabs, s0, Int.reduceToNat, not_true_eq_false, ne_eq])
    repeat (first
      | refine AW.seq ?_
      | refine AW.blockS ?_
      | ((first | refine AW.skip ?_ | refine AW.exit ?_ | refine AW.opsN rfl ?_ | refine AW.ret ?_); try (simp (decide := true) only [ax, tabs, s0, Int.reduceToNat, not_true_eq_false, ne_eq]))
      | (refine AW.condT ?_ ?_; (focus (simp (decide := true) only [ax, tabs, s0, Int.reduceToNat, not_true_eq_false, ne_eq]; done)))
      | (refine AW.condF ?_ ?_; (focus (simp (decide := true) only [ax, tabs, s0, Int.reduceToNat, not_true_eq_false, ne_eq]; done))))
    refine AC.det (markIntS_nil 1 _ (by omega)) ?_
    try (simp (decide := true) only [ax, tabs, s0, Int.reduceToNat])
    repeat (first
      | refine AW.seq ?_
      | refine AW.blockS ?_
      | ((first | refine AW.skip ?_ | refine AW.exit ?_ | refine AW.opsN rfl ?_ | refine AW.ret ?_); try (simp (decide := true) only [ax, tabs, s0, Int.reduceToNat]))
      | (refine AW.condT ?_ ?_; (focus (simp (decide := true) only [ax, tabs, s0, Int.reduceToNat]; done)))
      | (refine AW.condF ?_ ?_; (focus (simp (decide := true) only [ax, tabs, s0, Int.reduceToNat]; done))))
    refine AC.det (heldIntS_nil 1 _ (by omega)) ?_
    try (simp (decide := true) only [ax, tabs, s0, Int.reduceToNat, k1, not_true_eq_false, ne_eq])
    repeat (first
      | refine AW.seq ?_
      | refine AW.blockS ?_
      | ((first | refine AW.skip ?_ | refine AW.exit ?_ | refine AW.opsN rfl ?_ | refine AW.ret ?_); try (simp (decide := true) only [ax, tabs, s0, Int.reduceToNat, k1, not_true_eq_false, ne_eq]))
      | (refine AW.condT ?_ ?_; (focus (simp (decide := true) only [ax, tabs, s0, Int.reduceToNat, k1, not_true_eq_false, ne_eq]; done)))
      | (refine AW.condF ?_ ?_; (focus (simp (decide := true) only [ax, tabs, s0, Int.reduceToNat, k1, not_true_eq_false, ne_eq]; done))))
    refine AC.det (toPuzzle_fz p cs _ hl) ?_
    try (simp (decide := true) only [ax, tabs, s0, Int.reduceToNat])
    repeat (first
      | refine AW.seq ?_
      | refine AW.blockS ?_
      | ((first | refine AW.skip ?_ | refine AW.exit ?_ | refine AW.opsN rfl ?_ | refine AW.ret ?_); try (simp (decide := true) only [ax, tabs, s0, Int.reduceToNat]))
      | (refine AW.condT ?_ ?_; (focus (simp (decide := true) only [ax, tabs, s0, Int.reduceToNat]; done)))
      | (refine AW.condF ?_ ?_; (focus (simp (decide := true) only [ax, tabs, s0, Int.reduceToNat]; done))))
    refine AC.det (NeedlessClues_no p cs _ hl hv) ?_
    try (simp (decide := true) only [ax, tabs, s0, Int.reduceToNat])
    repeat (first
      | refine AW.seq ?_
      | refine AW.blockS ?_
      | ((first | refine AW.skip ?_ | refine AW.exit ?_ | refine AW.opsN rfl ?_ | refine AW.ret ?_); try (simp (decide := true) only [ax, tabs, s0, Int.reduceToNat]))
      | (refine AW.condT ?_ ?_; (focus (simp (decide := true) only [ax, tabs, s0, Int.reduceToNat]; done)))
      | (refine AW.condF ?_ ?_; (focus (simp (decide := true) only [ax, tabs, s0, Int.reduceToNat]; done))))
    refine AC.det (eqIntS_nil [] _) ?_
    rw [decide_eq_true rfl]
    try (simp (decide := true) only [ax, tabs, s0, Int.reduceToNat, not_true_eq_false, ne_eq])
    repeat (first
      | refine AW.seq ?_
      | refine AW.blockS ?_
      | ((first | refine AW.skip ?_ | refine AW.exit ?_ | refine AW.opsN rfl ?_ | refine AW.ret ?_); try (simp (decide := true) only [ax, tabs, s0, Int.reduceToNat, not_true_eq_false, ne_eq]))
      | (refine AW.condT ?_ ?_; (focus (simp (decide := true) only [ax, tabs, s0, Int.reduceToNat, not_true_eq_false, ne_eq]; done)))
      | (refine AW.condF ?_ ?_; (focus (simp (decide := true) only [ax, tabs, s0, Int.reduceToNat, not_true_eq_false, ne_eq]; done))))
    refine AC.det (heldIntS_nil 1 _ (by omega)) ?_
    try (simp (decide := true) only [ax, tabs, s0, Int.reduceToNat, not_true_eq_false, ne_eq])
    repeat (first
      | refine AW.seq ?_
      | refine AW.blockS ?_
      | ((first | refine AW.skip ?_ | refine AW.exit ?_ | refine AW.opsN rfl ?_ | refine AW.ret ?_); try (simp (decide := true) only [ax, tabs, s0, Int.reduceToNat, not_true_eq_false, ne_eq]))
      | (refine AW.condT ?_ ?_; (focus (simp (decide := true) only [ax, tabs, s0, Int.reduceToNat, not_true_eq_false, ne_eq]; done)))
      | (refine AW.condF ?_ ?_; (focus (simp (decide := true) only [ax, tabs, s0, Int.reduceToNat, not_true_eq_false, ne_eq]; done))))
    obtain ⟨J, rfl⟩ := lm.pre
    first
      | refine leftJ (.inr rfl) hcl (Nat.le_refl _) (by simp (decide := true) only [ax, tabs, s0, Int.reduceToNat]; rfl) ?_ rfl ⟨rfl, rfl⟩
      | refine leftS (.inr rfl) hcl (Nat.le_refl _) (by simp (decide := true) only [ax, tabs, s0, Int.reduceToNat]; rfl) ?_ rfl ⟨rfl, rfl⟩
    simp (decide := true) only [ax, tabs, s0, Int.reduceToNat]
end Go.Ax
