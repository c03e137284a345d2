/- A harder puzzle: the other side, and what the law asks. -/
import Derived.Test.YtnbfoiidlbfbeaaGreatP25
set_option linter.unusedVariables false
set_option linter.unusedSimpArgs false
namespace Go.Ax
open Go.Proofs

theorem HarderPuzzle_fz (n : Nat) (cs : List Clu) (M : List AO) (hv : isPuzF n cs = true) (h1 : oneF n cs = true) :
    AC E 31 [pv n cs] M (fun r M' => r = .tup [pv n (hardL n cs), .bool true] ∧ M' = M) :=
  .freeze ((HarderPuzzle_ok n cs M hv h1).mono fun r M' ⟨o, z, ho, hz, h1, h2, J, h3⟩ => by
    subst h3
    refine ⟨J, _, rfl, ?_, rfl, rfl⟩
    rw [h1]
    exact tell_tup (.cons (tell_agg (.cons (.scal rfl) (.cons (tell_pre h2 (by omega)) .nil))) (.cons (.scal rfl) .nil)))
theorem HarderPuzzle_no (p : Int) (cs : List Clu) (M : List AO) (hl : cs.length ≤ 2000000) (hno : isPuzF p cs = true → oneF p.toNat cs = false) :
    AC E 31 [pv p cs] M (fun r M' => r = .tup [.agg [iv 0, .nils], .bool false] ∧ M' = M) := by
  refine AC.body (fn := Tryz.f31) Tryz.func31 rfl rfl (by simp [Tryz.f31]) fun hcl => ?_
  simp only [Tryz.f31]
  try (simp (decide := true) only [ax, tabs, s0, Int.reduceToNat, pv])
  repeat (first
    | refine AW.seq ?_
    | refine AW.blockS ?_
    | ((first | refine AW.skip ?_ | refine AW.exit ?_ | refine AW.opsN rfl ?_ | refine AW.ret ?_); try (simp (decide := true) only [ax, tabs, s0, Int.reduceToNat, pv]))
    | (refine AW.condT ?_ ?_; (focus (simp (decide := true) only [ax, tabs, s0, Int.reduceToNat, pv]; done)))
    | (refine AW.condF ?_ ?_; (focus (simp (decide := true) only [ax, tabs, s0, Int.reduceToNat, pv]; done))))
  refine AC.det (IsSolved_ok p cs _ hl) ?_
  cases hv : isPuzF p cs with
  | true =>
    have h1 : decide ((hidL p.toNat cs).length = 1) = false := hno hv
    rw [if_pos rfl, h1]
    try (simp (decide := true) only [ax, tabs, s0, Int.reduceToNat])
    repeat (first
      | refine AW.seq ?_
      | refine AW.blockS ?_
      | ((first | refine AW.skip ?_ | refine AW.exit ?_ | refine AW.opsN rfl ?_ | refine AW.ret ?_); try (simp (decide := true) only [ax, tabs, s0, Int.reduceToNat]))
      | (refine AW.condT ?_ ?_; (focus (simp (decide := true) only [ax, tabs, s0, Int.reduceToNat]; done)))
      | (refine AW.condF ?_ ?_; (focus (simp (decide := true) only [ax, tabs, s0, Int.reduceToNat]; done))))
    refine left (.inr rfl) hcl (Nat.le_refl _) (by simp (decide := true) only [ax, tabs, s0, Int.reduceToNat]; rfl) ?_ ⟨rfl, rfl⟩
    try (simp (decide := true) only [ax, tabs, s0, Int.reduceToNat])
    exact tell_tup (.cons (tell_agg (.cons (.scal rfl) (.cons (.scal rfl) .nil))) (.cons (.scal rfl) .nil))
  | false =>
    rw [if_neg (by simp)]
    try (simp (decide := true) only [ax, tabs, s0, Int.reduceToNat])
    repeat (first
      | refine AW.seq ?_
      | refine AW.blockS ?_
      | ((first | refine AW.skip ?_ | refine AW.exit ?_ | refine AW.opsN rfl ?_ | refine AW.ret ?_); try (simp (decide := true) only [ax, tabs, s0, Int.reduceToNat]))
      | (refine AW.condT ?_ ?_; (focus (simp (decide := true) only [ax, tabs, s0, Int.reduceToNat]; done)))
      | (refine AW.condF ?_ ?_; (focus (simp (decide := true) only [ax, tabs, s0, Int.reduceToNat]; done))))
    refine left (.inr rfl) hcl (Nat.le_refl _) (by simp (decide := true) only [ax, tabs, s0, Int.reduceToNat]; rfl) ?_ ⟨rfl, rfl⟩
    try (simp (decide := true) only [ax, tabs, s0, Int.reduceToNat])
    exact tell_tup (.cons (tell_agg (.cons (.scal rfl) (.cons (.scal rfl) .nil))) (.cons (.scal rfl) .nil))
theorem Harder_live (n : Nat) (cs : List Clu) (o : Nat) (K : List AO) (hv : isPuzF n cs = true) (h1 : oneF n cs = true) (ho : K[o]? = some (.mem (cells cs))) :
    AC E 31 [.agg [iv n, .sl 3 o 0 cs.length (cs.length * 3)]] K (fun r M' => ∃ o z, K.length ≤ o ∧ (∀ a ∈ z, scal1 a = true) ∧ r = .tup [.agg [iv n, .sl 3 o 0 (hardL n cs).length (cells (hardL n cs) ++ z).length], .bool true] ∧ M'[o]? = some (.mem (cells (hardL n cs) ++ z)) ∧ ∃ J, M' = K ++ J) :=
  (AC.lendX (P := fun q _ r cs' => ∃ z, (∀ a ∈ z, scal1 a = true) ∧ r = .tup [.agg [iv n, .sl 3 (K.length + q) 0 (hardL n cs).length (cells (hardL n cs) ++ z).length], .bool true] ∧ cs' = cells (hardL n cs) ++ z) (tell_live ho) ((HarderPuzzle_ok n cs [] hv h1).mono fun r M' ⟨q, z, _, hz, h1, h2, _⟩ =>
    ⟨q, _, _, ⟨z, hz, rfl, rfl⟩, h2, fun i a h => (List.mem_append.1 (List.mem_of_getElem? h)).elim (cells_scal _ a) (hz a), by
      rw [h1]; exact .tup' (.cons (.agg' (.cons (.scal rfl) (.cons (.sl ..) .nil))) (.cons (.scal rfl) .nil))⟩)).mono fun r M' ⟨q, v, cs', len, ⟨z, hz, h1, h2⟩, h3, h4⟩ => by
    subst h4; subst h2
    exact ⟨_, z, Nat.le_add_right _ _, hz, h1, onlyAt_get h3, _, rfl⟩
theorem Harder_live_no (p : Int) (cs : List Clu) (o : Nat) (K : List AO) (hl : cs.length ≤ 2000000) (hno : isPuzF p cs = true → oneF p.toNat cs = false) (ho : K[o]? = some (.mem (cells cs))) :
    AC E 31 [.agg [iv p, .sl 3 o 0 cs.length (cs.length * 3)]] K (fun r M' => r = .tup [.agg [iv 0, .nils], .bool false] ∧ M' = K) :=
  .lendT (tell_live ho) (HarderPuzzle_no p cs [] hl hno) rfl

theorem specHarder_no (p : Int) (cs : List Clu) (M : List AO) (hl : cs.length ≤ 2000000) (hno : isPuzF p cs = true → oneF p.toNat cs = false) :
    AC E 29 [pv p cs] M (fun r M' => r = .tup [.agg [iv 0, .nils], .bool false] ∧ M' = M) := by
  refine AC.body (fn := Tryz.f29) Tryz.func29 rfl rfl (by simp [Tryz.f29]) fun hcl => ?_
  simp only [Tryz.f29]
  try (simp (decide := true) only [ax, tabs, s0, Int.reduceToNat, pv])
  repeat (first
    | refine AW.seq ?_
    | refine AW.blockS ?_
    | ((first | refine AW.skip ?_ | refine AW.exit ?_ | refine AW.opsN rfl ?_ | refine AW.ret ?_); try (simp (decide := true) only [ax, tabs, s0, Int.reduceToNat, pv]))
    | (refine AW.condT ?_ ?_; (focus (simp (decide := true) only [ax, tabs, s0, Int.reduceToNat, pv]; done)))
    | (refine AW.condF ?_ ?_; (focus (simp (decide := true) only [ax, tabs, s0, Int.reduceToNat, pv]; done))))
  refine AC.det (pzGood_ok p cs _ hl) ?_
  cases hv : isPuzF p cs with
  | true =>
    obtain ⟨n, rfl, hn1, h4, h6, hv1, hv2⟩ := isPuzF_dec hv
    rw [Int.toNat_natCast] at hno
    have h1 : decide ((hidL n cs).length = 1) = false := hno hv
    try (simp (decide := true) only [ax, tabs, s0, Int.reduceToNat])
    repeat (first
      | refine AW.seq ?_
      | refine AW.blockS ?_
      | ((first | refine AW.skip ?_ | refine AW.exit ?_ | refine AW.opsN rfl ?_ | refine AW.ret ?_); try (simp (decide := true) only [ax, tabs, s0, Int.reduceToNat]))
      | (refine AW.condT ?_ ?_; (focus (simp (decide := true) only [ax, tabs, s0, Int.reduceToNat]; done)))
      | (refine AW.condF ?_ ?_; (focus (simp (decide := true) only [ax, tabs, s0, Int.reduceToNat]; done))))
    refine AC.det (pzSolved_ok n ⟨hn1, h4⟩ cs _ hl hv1) ?_
    rw [h1]
    try (simp (decide := true) only [ax, tabs, s0, Int.reduceToNat])
    repeat (first
      | refine AW.seq ?_
      | refine AW.blockS ?_
      | ((first | refine AW.skip ?_ | refine AW.exit ?_ | refine AW.opsN rfl ?_ | refine AW.ret ?_); try (simp (decide := true) only [ax, tabs, s0, Int.reduceToNat]))
      | (refine AW.condT ?_ ?_; (focus (simp (decide := true) only [ax, tabs, s0, Int.reduceToNat]; done)))
      | (refine AW.condF ?_ ?_; (focus (simp (decide := true) only [ax, tabs, s0, Int.reduceToNat]; done))))
    refine left (.inr rfl) hcl (Nat.le_refl _) (by simp (decide := true) only [ax, tabs, s0, Int.reduceToNat]; rfl) ?_ ⟨rfl, rfl⟩
    try (simp (decide := true) only [ax, tabs, s0, Int.reduceToNat])
    exact tell_tup (.cons (tell_agg (.cons (.scal rfl) (.cons (.scal rfl) .nil))) (.cons (.scal rfl) .nil))
  | false =>
    try (simp (decide := true) only [ax, tabs, s0, Int.reduceToNat])
    repeat (first
      | refine AW.seq ?_
      | refine AW.blockS ?_
      | ((first | refine AW.skip ?_ | refine AW.exit ?_ | refine AW.opsN rfl ?_ | refine AW.ret ?_); try (simp (decide := true) only [ax, tabs, s0, Int.reduceToNat]))
      | (refine AW.condT ?_ ?_; (focus (simp (decide := true) only [ax, tabs, s0, Int.reduceToNat]; done)))
      | (refine AW.condF ?_ ?_; (focus (simp (decide := true) only [ax, tabs, s0, Int.reduceToNat]; done))))
    refine left (.inr rfl) hcl (Nat.le_refl _) (by simp (decide := true) only [ax, tabs, s0, Int.reduceToNat]; rfl) ?_ ⟨rfl, rfl⟩
    try (simp (decide := true) only [ax, tabs, s0, Int.reduceToNat])
    exact tell_tup (.cons (tell_agg (.cons (.scal rfl) (.cons (.scal rfl) .nil))) (.cons (.scal rfl) .nil))
theorem specHarder_ok (n : Nat) (cs : List Clu) (M : List AO) (hv : isPuzF n cs = true) (h1 : oneF n cs = true) :
    AC E 29 [pv n cs] M (fun r M' => r = .tup [pv n (hardL n cs), .bool true] ∧ M' = M) := by
  obtain ⟨n', hn', hn1, h4, h6, hv1, hv2⟩ := isPuzF_dec hv
  have : n' = n := by omega
  subst this
  have hl : cs.length ≤ 2000000 := by omega
  have hone : decide ((hidL n' cs).length = 1) = true := h1
  have h0 := one_ne hn1 h4 h1
  refine AC.body (fn := Tryz.f29) Tryz.func29 rfl rfl (by simp [Tryz.f29]) fun hcl => ?_
  simp only [Tryz.f29]
  try (simp (decide := true) only [ax, tabs, s0, Int.reduceToNat, pv])
  repeat (first
    | refine AW.seq ?_
    | refine AW.blockS ?_
    | ((first | refine AW.skip ?_ | refine AW.exit ?_ | refine AW.opsN rfl ?_ | refine AW.ret ?_); try (simp (decide := true) only [ax, tabs, s0, Int.reduceToNat, pv]))
    | (refine AW.condT ?_ ?_; (focus (simp (decide := true) only [ax, tabs, s0, Int.reduceToNat, pv]; done)))
    | (refine AW.condF ?_ ?_; (focus (simp (decide := true) only [ax, tabs, s0, Int.reduceToNat, pv]; done))))
  refine AC.det (pzGood_ok n' cs _ hl) ?_
  rw [hv]
  try (simp (decide := true) only [ax, tabs, s0, Int.reduceToNat])
  repeat (first
    | refine AW.seq ?_
    | refine AW.blockS ?_
    | ((first | refine AW.skip ?_ | refine AW.exit ?_ | refine AW.opsN rfl ?_ | refine AW.ret ?_); try (simp (decide := true) only [ax, tabs, s0, Int.reduceToNat]))
    | (refine AW.condT ?_ ?_; (focus (simp (decide := true) only [ax, tabs, s0, Int.reduceToNat]; done)))
    | (refine AW.condF ?_ ?_; (focus (simp (decide := true) only [ax, tabs, s0, Int.reduceToNat]; done))))
  refine AC.det (pzSolved_ok n' ⟨hn1, h4⟩ cs _ hl hv1) ?_
  rw [hone]
  have z := room (n := cs.length) (by omega)
  have f1 : (flat (cs.map cv)).length = cs.length * 3 := cells_length cs
  have f2 : (flat (cs.map cv)).all AV.one = true := cells_all cs
  try (simp (decide := true) only [ax, tabs, s0, Int.reduceToNat, List.length_map, z, f1, f2])
  repeat (first
    | refine AW.seq ?_
    | refine AW.blockS ?_
    | ((first | refine AW.skip ?_ | refine AW.exit ?_ | refine AW.ops ?_ | refine AW.ret ?_); try (simp (decide := true) only [ax, tabs, s0, Int.reduceToNat, List.length_map, z, f1, f2]))
    | (refine AW.condT ?_ ?_; (focus (simp (decide := true) only [ax, tabs, s0, Int.reduceToNat, List.length_map, z, f1, f2]; done)))
    | (refine AW.condF ?_ ?_; (focus (simp (decide := true) only [ax, tabs, s0, Int.reduceToNat, List.length_map, z, f1, f2]; done))))
  refine AW.freezeAt 4 (k := 3) (o := M.length + 2) (len := cs.length) (xs := cs.map cv) (cs := flat (cs.map cv)) (by rw [f1]; simp (decide := true) only [ax, tabs, s0, Int.reduceToNat]) (by simp) (by simp) (fun x hx => (Els.clues 0 cs).size x hx) rfl ?_
  try (simp (decide := true) only [ax, tabs, s0, Int.reduceToNat])
  repeat (first
    | refine AW.seq ?_
    | refine AW.blockS ?_
    | ((first | refine AW.skip ?_ | refine AW.exit ?_ | refine AW.opsN rfl ?_ | refine AW.ret ?_); try (simp (decide := true) only [ax, tabs, s0, Int.reduceToNat]))
    | (refine AW.condT ?_ ?_; (focus (simp (decide := true) only [ax, tabs, s0, Int.reduceToNat]; done)))
    | (refine AW.condF ?_ ?_; (focus (simp (decide := true) only [ax, tabs, s0, Int.reduceToNat]; done))))
  refine AW.gen fun T0_ hT0_ => ?_
  have z0_1 := congrFun hT0_ 1
  have z0_2 := congrFun hT0_ 2
  have z0_4 := congrFun hT0_ 4
  have z0_5 := congrFun hT0_ 5
  try (simp (decide := true) only [ax, tabs, s0, Int.reduceToNat] at z0_1 z0_2 z0_4 z0_5)
  clear hT0_
  refine AW.blockP (fun T M' => T 4 = .fz 3 ((hardL n' cs).map cv) ∧ AgT [1, 2] T T0_ ∧ M' = M ++ [AO.mem [iv n', AV.fz 3 (List.map cv cs)], AO.mem [iv 0, AV.nils], .dead])
    (AW.loop (fun d T M' => ∃ (ds : List Clu) (k : Nat), d = ds.length - k ∧ hardGo n' d k ds = hardL n' cs ∧ (∀ c ∈ ds, c ∈ cs) ∧ ds.length ≤ cs.length ∧ T 5 = iv k ∧ T 4 = .fz 3 (ds.map cv) ∧ AgT [1, 2] T T0_ ∧ M' = M ++ [AO.mem [iv n', AV.fz 3 (List.map cv cs)], AO.mem [iv 0, AV.nils], .dead]) cs.length
      ⟨cs, 0, by omega, rfl, fun _ h => h, Nat.le_refl _, z0_5, z0_4, AgT_refl _ _, rfl⟩ ?_) ?_
  · rintro d T M' ⟨ds, k, rfl, hR, hm, hln, t5, t4, fr, rfl⟩
    have y0_1 := (fr 1 (by decide)).trans z0_1
    have y0_2 := (fr 2 (by decide)).trans z0_2
    try (simp (decide := true) only [ax, tabs, s0, Int.reduceToNat, y0_1, y0_2, t4, t5, List.length_map])
    repeat (first
      | refine AW.seq ?_
      | refine AW.blockS ?_
      | ((first | refine AW.skip ?_ | refine AW.exit ?_ | refine AW.opsN rfl ?_ | refine AW.ret ?_); try (simp (decide := true) only [ax, tabs, s0, Int.reduceToNat, y0_1, y0_2, t4, t5, List.length_map]))
      | (refine AW.condT ?_ ?_; (focus (simp (decide := true) only [ax, tabs, s0, Int.reduceToNat, y0_1, y0_2, t4, t5, List.length_map]; done)))
      | (refine AW.condF ?_ ?_; (focus (simp (decide := true) only [ax, tabs, s0, Int.reduceToNat, y0_1, y0_2, t4, t5, List.length_map]; done))))
    repeat refine AW.seq ?_
    refine AW.cond (decide (k < ds.length)) (by simp (decide := true) only [ax, tabs, s0, Int.reduceToNat]) (fun h => ?_) (fun h => ?_)
    · have hk : k < ds.length := of_decide_eq_true h
      have hdl := drop1_length hk
      have hm2 : ∀ c ∈ drop1 ds k, c ∈ cs := fun c hc => hm c (drop1_mem hc)
      have hx : ds.length - k = (ds.length - k - 1) + 1 := by omega
      rw [hx] at hR
      simp only [hardGo, if_pos hk] at hR
      try (simp (decide := true) only [ax, tabs, s0, Int.reduceToNat, y0_1, y0_2, t4, t5])
      repeat (first
        | refine AW.seq ?_
        | refine AW.blockS ?_
        | ((first | refine AW.skip ?_ | refine AW.exit ?_ | refine AW.opsN rfl ?_ | refine AW.ret ?_); try (simp (decide := true) only [ax, tabs, s0, Int.reduceToNat, y0_1, y0_2, t4, t5]))
        | (refine AW.condT ?_ ?_; (focus (simp (decide := true) only [ax, tabs, s0, Int.reduceToNat, y0_1, y0_2, t4, t5]; done)))
        | (refine AW.condF ?_ ?_; (focus (simp (decide := true) only [ax, tabs, s0, Int.reduceToNat, y0_1, y0_2, t4, t5]; done))))
      refine AC.det (pzWithout_ok ds k _ hk (by omega)) ?_
      try (simp (decide := true) only [ax, tabs, s0, Int.reduceToNat, y0_1, y0_2, t4, t5])
      repeat (first
        | refine AW.seq ?_
        | refine AW.blockS ?_
        | ((first | refine AW.skip ?_ | refine AW.exit ?_ | refine AW.opsN rfl ?_ | refine AW.ret ?_); try (simp (decide := true) only [ax, tabs, s0, Int.reduceToNat, y0_1, y0_2, t4, t5]))
        | (refine AW.condT ?_ ?_; (focus (simp (decide := true) only [ax, tabs, s0, Int.reduceToNat, y0_1, y0_2, t4, t5]; done)))
        | (refine AW.condF ?_ ?_; (focus (simp (decide := true) only [ax, tabs, s0, Int.reduceToNat, y0_1, y0_2, t4, t5]; done))))
      refine AC.det (pzSolved_ok n' ⟨hn1, h4⟩ (drop1 ds k) _ (by omega) (fun c hc => hv1 c (hm2 c hc))) ?_
      have hd : decide ((hidL n' (drop1 ds k)).length = 1) = oneF n' (drop1 ds k) := rfl
      rw [hd]
      try (simp (decide := true) only [ax, tabs, s0, Int.reduceToNat])
      repeat (first
        | refine AW.seq ?_
        | refine AW.blockS ?_
        | ((first | refine AW.skip ?_ | refine AW.exit ?_ | refine AW.opsN rfl ?_ | refine AW.ret ?_); try (simp (decide := true) only [ax, tabs, s0, Int.reduceToNat]))
        | (refine AW.condT ?_ ?_; (focus (simp (decide := true) only [ax, tabs, s0, Int.reduceToNat]; done)))
        | (refine AW.condF ?_ ?_; (focus (simp (decide := true) only [ax, tabs, s0, Int.reduceToNat]; done))))
      repeat refine AW.seq ?_
      refine AW.cond (oneF n' (drop1 ds k)) (by simp (decide := true) only [ax, tabs, s0, Int.reduceToNat]) (fun h => ?_) (fun h => ?_)
      · rw [if_pos h] at hR
        try (simp (decide := true) only [ax, tabs, s0, Int.reduceToNat])
        repeat (first
          | refine AW.seq ?_
          | refine AW.blockS ?_
          | ((first | refine AW.skip ?_ | refine AW.exit ?_ | refine AW.opsN rfl ?_ | refine AW.ret ?_); try (simp (decide := true) only [ax, tabs, s0, Int.reduceToNat]))
          | (refine AW.condT ?_ ?_; (focus (simp (decide := true) only [ax, tabs, s0, Int.reduceToNat]; done)))
          | (refine AW.condF ?_ ?_; (focus (simp (decide := true) only [ax, tabs, s0, Int.reduceToNat]; done))))
        exact ⟨ds.length - k - 1, by omega, drop1 ds k, k, by rw [hdl]; omega, hR, hm2, by rw [hdl]; omega, by simp (decide := true) only [ax, tabs, s0, Int.reduceToNat, t5], by simp (decide := true) only [ax, tabs, s0, Int.reduceToNat], by simp (decide := true) only [ax, tabs, s0, Int.reduceToNat, AgT_cons, AgT_nil, and_true, y0_1, y0_2, z0_1, z0_2, z0_4, z0_5]⟩
      · rw [if_neg (by rw [h]; simp)] at hR
        have w := wrap_succ (i := k) (by omega)
        try (simp (decide := true) only [ax, tabs, s0, Int.reduceToNat, t5, w])
        repeat (first
          | refine AW.seq ?_
          | refine AW.blockS ?_
          | ((first | refine AW.skip ?_ | refine AW.exit ?_ | refine AW.opsN rfl ?_ | refine AW.ret ?_); try (simp (decide := true) only [ax, tabs, s0, Int.reduceToNat, t5, w]))
          | (refine AW.condT ?_ ?_; (focus (simp (decide := true) only [ax, tabs, s0, Int.reduceToNat, t5, w]; done)))
          | (refine AW.condF ?_ ?_; (focus (simp (decide := true) only [ax, tabs, s0, Int.reduceToNat, t5, w]; done))))
        exact ⟨ds.length - k - 1, by omega, ds, k + 1, by omega, hR, hm, hln, by simp (decide := true) only [ax, tabs, s0, Int.reduceToNat], by simp (decide := true) only [ax, tabs, s0, Int.reduceToNat, t4], by simp (decide := true) only [ax, tabs, s0, Int.reduceToNat, AgT_cons, AgT_nil, and_true, y0_1, y0_2, z0_1, z0_2, z0_4, z0_5]⟩
    · have hk : ¬ k < ds.length := of_decide_eq_false h
      have hx : ds.length - k = 0 := by omega
      rw [hx] at hR
      simp only [hardGo] at hR
      subst hR
      try (simp (decide := true) only [ax, tabs, s0, Int.reduceToNat])
      repeat (first
        | refine AW.seq ?_
        | refine AW.blockS ?_
        | ((first | refine AW.skip ?_ | refine AW.exit ?_ | refine AW.opsN rfl ?_ | refine AW.ret ?_); try (simp (decide := true) only [ax, tabs, s0, Int.reduceToNat]))
        | (refine AW.condT ?_ ?_; (focus (simp (decide := true) only [ax, tabs, s0, Int.reduceToNat]; done)))
        | (refine AW.condF ?_ ?_; (focus (simp (decide := true) only [ax, tabs, s0, Int.reduceToNat]; done))))
      exact ⟨by simp (decide := true) only [ax, tabs, s0, Int.reduceToNat, t4], by simp (decide := true) only [ax, tabs, s0, Int.reduceToNat, AgT_cons, AgT_nil, and_true, y0_1, y0_2, z0_1, z0_2, z0_4, z0_5]⟩
  · rintro T M' ⟨t4, fr, rfl⟩
    have y0_1 := (fr 1 (by decide)).trans z0_1
    have y0_2 := (fr 2 (by decide)).trans z0_2
    try (simp (decide := true) only [ax, tabs, s0, Int.reduceToNat, y0_1, y0_2, t4])
    repeat (first
      | refine AW.seq ?_
      | refine AW.blockS ?_
      | ((first | refine AW.skip ?_ | refine AW.exit ?_ | refine AW.opsN rfl ?_ | refine AW.ret ?_); try (simp (decide := true) only [ax, tabs, s0, Int.reduceToNat, y0_1, y0_2, t4]))
      | (refine AW.condT ?_ ?_; (focus (simp (decide := true) only [ax, tabs, s0, Int.reduceToNat, y0_1, y0_2, t4]; done)))
      | (refine AW.condF ?_ ?_; (focus (simp (decide := true) only [ax, tabs, s0, Int.reduceToNat, y0_1, y0_2, t4]; done))))
    refine left (.inr rfl) hcl (Nat.le_refl _) (by simp (decide := true) only [ax, tabs, s0, Int.reduceToNat, y0_1, y0_2]; rfl) ?_ ⟨rfl, rfl⟩
    try (simp (decide := true) only [ax, tabs, s0, Int.reduceToNat])
    exact tell_tup (.cons (.same _ (.agg2 (.int _ _) (.fz _ _ (Els.clues _ _).cl))) (.cons (.scal rfl) .nil))
end Go.Ax
