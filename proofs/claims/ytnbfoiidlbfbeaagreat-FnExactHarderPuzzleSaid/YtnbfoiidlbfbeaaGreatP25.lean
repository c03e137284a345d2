/- A harder puzzle: clues are taken away as long as one answer is left. -/
import Derived.Test.YtnbfoiidlbfbeaaGreatP24
import Derived.Test.YtnbfoiidlbfbeaaGreatAx15
set_option linter.unusedVariables false
set_option linter.unusedSimpArgs false
namespace Go.Ax
open Go.Proofs

def oneF (p : Nat) (cs : List Clu) : Bool := decide ((hidL p cs).length = 1)
def hardGo (p : Nat) : Nat → Nat → List Clu → List Clu
  | 0, _, cs => cs
  | f + 1, k, cs => if k < cs.length then (if oneF p (drop1 cs k) = true then hardGo p f k (drop1 cs k) else hardGo p f (k + 1) cs) else cs
def hardL (p : Nat) (cs : List Clu) : List Clu := hardGo p cs.length 0 cs
theorem hidL_nil {p : Nat} (h1 : 1 ≤ p) (h4 : p ≤ 4) : oneF p [] = false := by
  have : p = 1 ∨ p = 2 ∨ p = 3 ∨ p = 4 := by omega
  rcases this with rfl | rfl | rfl | rfl <;> decide +kernel
theorem one_ne {p : Nat} {cs : List Clu} (h1 : 1 ≤ p) (h4 : p ≤ 4) (h : oneF p cs = true) : cs ≠ [] := by
  rintro rfl
  rw [hidL_nil h1 h4] at h; cases h
theorem hardGo_one {p : Nat} : ∀ (f k : Nat) (cs : List Clu), oneF p cs = true → oneF p (hardGo p f k cs) = true
  | 0, _, _, h => h
  | f + 1, k, cs, h => by
    unfold hardGo
    split
    · split
      · rename_i h2; exact hardGo_one f k _ h2
      · exact hardGo_one f _ _ h
    · exact h
theorem hardGo_mem {p : Nat} : ∀ (f k : Nat) (cs : List Clu), (∀ c ∈ hardGo p f k cs, c ∈ cs) ∧ (hardGo p f k cs).length ≤ cs.length
  | 0, _, _ => ⟨fun _ h => h, Nat.le_refl _⟩
  | f + 1, k, cs => by
    unfold hardGo
    split
    · rename_i hk
      split
      · obtain ⟨h1, h2⟩ := hardGo_mem (p := p) f k (drop1 cs k)
        rw [drop1_length hk] at h2
        exact ⟨fun c hc => drop1_mem (h1 c hc), by omega⟩
      · exact hardGo_mem f _ _
    · exact ⟨fun _ h => h, Nat.le_refl _⟩

theorem tell_liveP {K : List AO} {o : Nat} {p : Int} {cs : List Clu} {z : List AV} (ho : K[o]? = some (.mem (cells cs ++ z))) : TellL K 0 [.agg [iv p, .sl 3 o 0 cs.length (cells cs ++ z).length]] [pv p cs] :=
  .cons (tell_agg (.cons (.scal rfl) (.cons (tell_pre ho (Nat.zero_le _)) .nil))) .nil
theorem tell_liveP2 {K : List AO} {o : Nat} {p k : Int} {cs : List Clu} {z : List AV} (ho : K[o]? = some (.mem (cells cs ++ z))) : TellL K 0 [.agg [iv p, .sl 3 o 0 cs.length (cells cs ++ z).length], iv k] [pv p cs, iv k] :=
  .cons (tell_agg (.cons (.scal rfl) (.cons (tell_pre ho (Nat.zero_le _)) .nil))) (.cons (.scal rfl) .nil)
theorem cells_z (cs : List Clu) : ∀ (i : Nat) (a : AV), (cells cs ++ [iv 0, iv 0, iv 0])[i]? = some a → scal1 a = true := by
  intro i a h
  rcases List.mem_append.1 (List.mem_of_getElem? h) with h | h
  · exact cells_scal cs a h
  · simp at h; subst h; rfl
theorem cells_z_len {cs : List Clu} {k : Nat} (hk : k < cs.length) : cs.length * 3 = (cells (drop1 cs k) ++ [iv 0, iv 0, iv 0]).length := by
  rw [List.length_append, cells_length, drop1_length hk]; simp; omega
theorem without_live (p : Int) (ds : List Clu) (k o : Nat) (z : List AV) (K : List AO) (hk : k < ds.length) (hl : ds.length ≤ 1000) (ho : K[o]? = some (.mem (cells ds ++ z))) :
    AC E 69 [.agg [iv p, .sl 3 o 0 ds.length (cells ds ++ z).length], iv k] K (fun r M' => r = .agg [iv p, .sl 3 (K.length + 2) 0 (drop1 ds k).length (cells (drop1 ds k) ++ [iv 0, iv 0, iv 0]).length] ∧ M'[K.length + 2]? = some (.mem (cells (drop1 ds k) ++ [iv 0, iv 0, iv 0])) ∧ ∃ J, M' = K ++ J) :=
  (AC.lend1 (o := 2) (v := .agg [iv p, .sl 3 2 0 (drop1 ds k).length (cells (drop1 ds k) ++ [iv 0, iv 0, iv 0]).length]) (cs := cells (drop1 ds k) ++ [iv 0, iv 0, iv 0]) (tell_liveP2 ho) ((without_ok p ds k [] hk hl).mono fun r M' h => by
      obtain ⟨h1, h2, _⟩ := h
      simp only [List.length_nil, Nat.zero_add] at h1 h2
      rw [drop1_length hk, ← cells_z_len hk]
      exact ⟨h1, h2⟩) (cells_z _) (.agg' (.cons (.scal rfl) (.cons (.sl ..) .nil)))).mono fun r M' ⟨h1, len, h2, h3⟩ => by
    subst h3
    exact ⟨h1, onlyAt_get h2, _, rfl⟩
theorem count_live (p : Nat) (hp : 1 ≤ p ∧ p ≤ 4) (ds : List Clu) (o : Nat) (z : List AV) (K : List AO) (hcs : ds.length ≤ 2000000) (hc0 : ∀ c ∈ ds, 0 ≤ c.2.1) (ho : K[o]? = some (.mem (cells ds ++ z))) :
    AC E 70 [.agg [iv p, .sl 3 o 0 ds.length (cells ds ++ z).length]] K (fun r M' => r = iv (hidL p ds).length ∧ M' = K) :=
  .lend (tell_liveP ho) (count_ok p hp ds [] hcs hc0) rfl
/-- The memory in the loop: the puzzle that is left. -/
def HardI (p : Int) (M0 : List AO) (ds : List Clu) (M' : List AO) : Prop := M0 <+: M' ∧ ∃ o z, M0.length < o ∧ (∀ a ∈ z, scal1 a = true) ∧ M'[M0.length]? = some (.mem [iv p, .sl 3 o 0 ds.length (cells ds ++ z).length]) ∧ M'[o]? = some (.mem (cells ds ++ z))
set_option maxHeartbeats 1000000 in
theorem HarderPuzzle_ok (n : Nat) (cs : List Clu) (M : List AO) (hv : isPuzF n cs = true) (h1 : oneF n cs = true) :
    AC E 31 [pv n cs] M (fun r M' => ∃ o z, M.length + 2 < o ∧ (∀ a ∈ z, scal1 a = true) ∧ r = .tup [.agg [iv n, .sl 3 o 0 (hardL n cs).length (cells (hardL n cs) ++ z).length], .bool true] ∧ M'[o]? = some (.mem (cells (hardL n cs) ++ z)) ∧ M <+: M') := by
  obtain ⟨n', hn', hn1, h4, h6, hv1, hv2⟩ := isPuzF_dec hv
  have : n' = n := by omega
  subst this
  have h0 := one_ne hn1 h4 h1
  have hl : cs.length ≤ 2000000 := by omega
  refine AC.body (fn := Tryz.f31) Tryz.func31 rfl rfl (by simp [Tryz.f31]) fun hcl => ?_
  simp only [Tryz.f31]
  try (simp (decide := true) only [ax, tabs, s0, Int.reduceToNat, pv])
  repeat (first
    | refine AW.seq ?_
    | refine AW.blockS ?_
    | ((first | refine AW.skip ?_ | refine AW.exit ?_ | refine AW.opsN rfl ?_ | refine AW.ret ?_); try (simp (decide := true) only [ax, tabs, s0, Int.reduceToNat, pv]))
    | (refine AW.condT ?_ ?_; (focus (simp (decide := true) only [ax, tabs, s0, Int.reduceToNat, pv]; done)))
    | (refine AW.condF ?_ ?_; (focus (simp (decide := true) only [ax, tabs, s0, Int.reduceToNat, pv]; done))))
  refine AC.det (IsSolved_ok n' cs _ hl) ?_
  have hone : decide ((hidL n' cs).length = 1) = true := h1
  rw [hv, if_pos rfl, Int.toNat_natCast, hone]
  try (simp (decide := true) only [ax, tabs, s0, Int.reduceToNat])
  repeat (first
    | refine AW.seq ?_
    | refine AW.blockS ?_
    | ((first | refine AW.skip ?_ | refine AW.exit ?_ | refine AW.opsN rfl ?_ | refine AW.ret ?_); try (simp (decide := true) only [ax, tabs, s0, Int.reduceToNat]))
    | (refine AW.condT ?_ ?_; (focus (simp (decide := true) only [ax, tabs, s0, Int.reduceToNat]; done)))
    | (refine AW.condF ?_ ?_; (focus (simp (decide := true) only [ax, tabs, s0, Int.reduceToNat]; done))))
  repeat refine AW.seq ?_
  refine AW.reserve ?_
  refine AW.drawR Emix 6 (M.length + 2) 6 50 [3, 3, 0, 0, 1, 2, 2] [0, 1, 0, 4, 12, 31, 0, 127] (by kernel_rfl) ⟨by decide, rfl⟩ ?_
  simp (decide := true) only [ax, axd, tabs, s0, Int.reduceToNat, detR, drawG, zcA, zokA, if_true, if_false, Option.some.injEq]
  refine ⟨_, _, CloneClue_sl cs _ hl h0, ?_, ?_⟩
  · refine (CloneClue_sl cs _ hl h0).mono ?_
    rintro _ _ ⟨rfl, rfl⟩
    simp
  simp (decide := true) only [ax, axd, tabs, s0, Int.reduceToNat, detR, drawG, zcA, zokA, if_true, if_false, Option.some.injEq]
  try (simp (decide := true) only [ax, tabs, s0, Int.reduceToNat])
  repeat (first
    | refine AW.seq ?_
    | refine AW.blockS ?_
    | ((first | refine AW.skip ?_ | refine AW.exit ?_ | refine AW.opsN rfl ?_ | refine AW.ret ?_); try (simp (decide := true) only [ax, tabs, s0, Int.reduceToNat]))
    | (refine AW.condT ?_ ?_; (focus (simp (decide := true) only [ax, tabs, s0, Int.reduceToNat]; done)))
    | (refine AW.condF ?_ ?_; (focus (simp (decide := true) only [ax, tabs, s0, Int.reduceToNat]; done))))
  have e1 : cs.length * 3 = (cells cs ++ []).length := by rw [List.append_nil, cells_length]
  have inv0 : HardI n' (M ++ [.mem [iv n', .fz 3 (cs.map cv)], .mem [iv 0, .nils]]) cs (M ++ [.mem [iv n', .fz 3 (cs.map cv)], .mem [iv 0, .nils], .mem [iv n', .sl 3 (M.length + 3) 0 cs.length (cs.length * 3)], .mem (cells cs)]) := by
    refine ⟨⟨[_, _], by simp; exact ⟨rfl, rfl⟩⟩, M.length + 3, [], by simp, (fun a h => by simp at h), by rw [← e1]; simp, by simp⟩
  have hlen0 : (M ++ [AO.mem [iv n', .fz 3 (cs.map cv)], .mem [iv 0, .nils]]).length = M.length + 2 := by simp
  refine AW.gen fun T0_ hT0_ => ?_
  have z0_2 := congrFun hT0_ 2
  have z0_6 := congrFun hT0_ 6
  have z0_7 := congrFun hT0_ 7
  try (simp (decide := true) only [ax, tabs, s0, Int.reduceToNat] at z0_2 z0_6 z0_7)
  clear hT0_
  refine AW.blockP (fun T M' => HardI n' (M ++ [.mem [iv n', .fz 3 (cs.map cv)], .mem [iv 0, .nils]]) (hardL n' cs) M' ∧ AgT [2, 6] T T0_)
    (AW.loop (fun d T M' => ∃ (ds : List Clu) (k : Nat), d = ds.length - k ∧ hardGo n' d k ds = hardL n' cs ∧ oneF n' ds = true ∧ (∀ c ∈ ds, c ∈ cs) ∧ ds.length ≤ cs.length ∧ T 7 = iv k ∧ HardI n' (M ++ [.mem [iv n', .fz 3 (cs.map cv)], .mem [iv 0, .nils]]) ds M' ∧ AgT [2, 6] T T0_) cs.length
      ⟨cs, 0, by omega, rfl, h1, fun _ h => h, Nat.le_refl _, ?_, inv0, AgT_refl _ _⟩ ?_) ?_
  · exact z0_7
  · rintro d T M' ⟨ds, k, rfl, hR, ho, hm, hln, t7, ⟨hpre, o, z, hoge, hz, he, hrow⟩, fr⟩
    rw [hlen0] at hoge he
    have y0_2 := (fr 2 (by decide)).trans z0_2
    have y0_6 := (fr 6 (by decide)).trans z0_6
    try (simp (decide := true) only [ax, tabs, s0, Int.reduceToNat, y0_2, y0_6, t7, he, hrow])
    repeat (first
      | refine AW.seq ?_
      | refine AW.blockS ?_
      | ((first | refine AW.skip ?_ | refine AW.exit ?_ | refine AW.opsN rfl ?_ | refine AW.ret ?_); try (simp (decide := true) only [ax, tabs, s0, Int.reduceToNat, y0_2, y0_6, t7, he, hrow]))
      | (refine AW.condT ?_ ?_; (focus (simp (decide := true) only [ax, tabs, s0, Int.reduceToNat, y0_2, y0_6, t7, he, hrow]; done)))
      | (refine AW.condF ?_ ?_; (focus (simp (decide := true) only [ax, tabs, s0, Int.reduceToNat, y0_2, y0_6, t7, he, hrow]; done))))
    repeat refine AW.seq ?_
    refine AW.cond (decide (k < ds.length)) (by simp (decide := true) only [ax, tabs, s0, Int.reduceToNat]) (fun h => ?_) (fun h => ?_)
    · have hk : k < ds.length := of_decide_eq_true h
      try (simp (decide := true) only [ax, tabs, s0, Int.reduceToNat, y0_2, y0_6, t7, he, hrow])
      repeat (first
        | refine AW.seq ?_
        | refine AW.blockS ?_
        | ((first | refine AW.skip ?_ | refine AW.exit ?_ | refine AW.opsN rfl ?_ | refine AW.ret ?_); try (simp (decide := true) only [ax, tabs, s0, Int.reduceToNat, y0_2, y0_6, t7, he, hrow]))
        | (refine AW.condT ?_ ?_; (focus (simp (decide := true) only [ax, tabs, s0, Int.reduceToNat, y0_2, y0_6, t7, he, hrow]; done)))
        | (refine AW.condF ?_ ?_; (focus (simp (decide := true) only [ax, tabs, s0, Int.reduceToNat, y0_2, y0_6, t7, he, hrow]; done))))
      refine (without_live n' ds k o z M' hk (by omega) hrow).mono ?_
      rintro _ K2 ⟨rfl, hnew, J2, rfl⟩
      have he2 : ∀ X, (M' ++ X)[M.length + 2]? = _ := fun X => app_obj he X
      try (simp (decide := true) only [ax, tabs, s0, Int.reduceToNat, he2])
      repeat (first
        | refine AW.seq ?_
        | refine AW.blockS ?_
        | ((first | refine AW.skip ?_ | refine AW.exit ?_ | refine AW.opsN rfl ?_ | refine AW.ret ?_); try (simp (decide := true) only [ax, tabs, s0, Int.reduceToNat, he2]))
        | (refine AW.condT ?_ ?_; (focus (simp (decide := true) only [ax, tabs, s0, Int.reduceToNat, he2]; done)))
        | (refine AW.condF ?_ ?_; (focus (simp (decide := true) only [ax, tabs, s0, Int.reduceToNat, he2]; done))))
      have hdl := drop1_length hk
      have hm2 : ∀ c ∈ drop1 ds k, c ∈ cs := fun c hc => hm c (drop1_mem hc)
      obtain ⟨X, hX⟩ : ∃ X, X = [iv n', AV.sl 3 (M'.length + 2) 0 (drop1 ds k).length (cells (drop1 ds k) ++ [iv 0, iv 0, iv 0]).length] := ⟨_, rfl⟩
      have hk8 : (M' ++ (J2 ++ [AO.mem X]))[M'.length + J2.length]? = some (.mem X) := by simp
      have hkr : (M' ++ (J2 ++ [AO.mem X]))[M'.length + 2]? = some (AO.mem (cells (drop1 ds k) ++ [iv 0, iv 0, iv 0])) := by rw [← List.append_assoc]; exact app_obj hnew _
      have hke := he2 (J2 ++ [AO.mem X])
      have hp2 : M ++ [AO.mem [iv n', AV.fz 3 (List.map cv cs)], AO.mem [iv 0, AV.nils]] <+: M' ++ (J2 ++ [AO.mem X]) := hpre.trans (List.prefix_append _ _)
      have hlt := lt_of_obj he
      have hlt2 := lt_of_obj hnew
      rw [← hX]
      rw [hX] at hk8 ⊢
      refine AC.det (count_live n' ⟨hn1, h4⟩ (drop1 ds k) (M'.length + 2) _ _ (by omega) (fun c hc => hv2 c (hm2 c hc)) (by rw [← hX]; exact hkr)) ?_
      have hd : decide (((hidL n' (drop1 ds k)).length : Int) = 1) = oneF n' (drop1 ds k) := by
        unfold oneF
        by_cases h : (hidL n' (drop1 ds k)).length = 1
        · rw [decide_eq_true h, decide_eq_true (by omega)]
        · rw [decide_eq_false h, decide_eq_false (by omega)]
      have hx : ds.length - k = (ds.length - k - 1) + 1 := by omega
      rw [hx] at hR
      simp only [hardGo, if_pos hk] at hR
      try (simp (decide := true) only [ax, tabs, s0, Int.reduceToNat, hd])
      repeat (first
        | refine AW.seq ?_
        | refine AW.blockS ?_
        | ((first | refine AW.skip ?_ | refine AW.exit ?_ | refine AW.opsN rfl ?_ | refine AW.ret ?_); try (simp (decide := true) only [ax, tabs, s0, Int.reduceToNat, hd]))
        | (refine AW.condT ?_ ?_; (focus (simp (decide := true) only [ax, tabs, s0, Int.reduceToNat, hd]; done)))
        | (refine AW.condF ?_ ?_; (focus (simp (decide := true) only [ax, tabs, s0, Int.reduceToNat, hd]; done))))
      repeat refine AW.seq ?_
      refine AW.cond (oneF n' (drop1 ds k)) (by simp (decide := true) only [ax, tabs, s0, Int.reduceToNat]) (fun h => ?_) (fun h => ?_)
      · rw [if_pos h] at hR
        subst hX
        try (simp (decide := true) only [ax, tabs, s0, Int.reduceToNat, y0_2, y0_6, t7, hke, hk8])
        repeat (first
          | refine AW.seq ?_
          | refine AW.blockS ?_
          | ((first | refine AW.skip ?_ | refine AW.exit ?_ | refine AW.opsN rfl ?_ | refine AW.ret ?_); try (simp (decide := true) only [ax, tabs, s0, Int.reduceToNat, y0_2, y0_6, t7, hke, hk8]))
          | (refine AW.condT ?_ ?_; (focus (simp (decide := true) only [ax, tabs, s0, Int.reduceToNat, y0_2, y0_6, t7, hke, hk8]; done)))
          | (refine AW.condF ?_ ?_; (focus (simp (decide := true) only [ax, tabs, s0, Int.reduceToNat, y0_2, y0_6, t7, hke, hk8]; done))))
        refine ⟨ds.length - k - 1, by omega, drop1 ds k, k, by rw [hdl]; omega, hR, h, hm2, by rw [hdl]; omega, by simp (decide := true) only [ax, tabs, s0, Int.reduceToNat, t7], ⟨pre_set hp2 (by rw [hlen0]; omega) _, M'.length + 2, [iv 0, iv 0, iv 0], by rw [hlen0]; omega, (fun a h => by simp at h; subst h; rfl), by rw [hlen0]; exact List.getElem?_set_self (lt_of_obj hke), by rw [List.getElem?_set_ne (by omega)]; exact hkr⟩, by simp (decide := true) only [ax, tabs, s0, Int.reduceToNat, AgT_cons, AgT_nil, and_true, y0_2, y0_6, z0_2, z0_6, z0_7]⟩
      · rw [if_neg (by rw [h]; simp)] at hR
        have w := wrap_succ (i := k) (by omega)
        subst hX
        try (simp (decide := true) only [ax, tabs, s0, Int.reduceToNat, y0_2, y0_6, t7, w])
        repeat (first
          | refine AW.seq ?_
          | refine AW.blockS ?_
          | ((first | refine AW.skip ?_ | refine AW.exit ?_ | refine AW.opsN rfl ?_ | refine AW.ret ?_); try (simp (decide := true) only [ax, tabs, s0, Int.reduceToNat, y0_2, y0_6, t7, w]))
          | (refine AW.condT ?_ ?_; (focus (simp (decide := true) only [ax, tabs, s0, Int.reduceToNat, y0_2, y0_6, t7, w]; done)))
          | (refine AW.condF ?_ ?_; (focus (simp (decide := true) only [ax, tabs, s0, Int.reduceToNat, y0_2, y0_6, t7, w]; done))))
        refine ⟨ds.length - k - 1, by omega, ds, k + 1, by omega, hR, ho, hm, hln, by simp (decide := true) only [ax, tabs, s0, Int.reduceToNat], ⟨hp2, o, z, by rw [hlen0]; omega, hz, by rw [hlen0]; exact hke, app_obj hrow _⟩, by simp (decide := true) only [ax, tabs, s0, Int.reduceToNat, AgT_cons, AgT_nil, and_true, y0_2, y0_6, z0_2, z0_6, z0_7]⟩
    · have hk : ¬ k < ds.length := of_decide_eq_false h
      have hx : ds.length - k = 0 := by omega
      rw [hx] at hR
      simp only [hardGo] at hR
      subst hR
      try (simp (decide := true) only [ax, tabs, s0, Int.reduceToNat])
      repeat (first
        | refine AW.seq ?_
        | refine AW.blockS ?_
        | ((first | refine AW.skip ?_ | refine AW.exit ?_ | refine AW.opsN rfl ?_ | refine AW.ret ?_); try (simp (decide := true) only [ax, tabs, s0, Int.reduceToNat]))
        | (refine AW.condT ?_ ?_; (focus (simp (decide := true) only [ax, tabs, s0, Int.reduceToNat]; done)))
        | (refine AW.condF ?_ ?_; (focus (simp (decide := true) only [ax, tabs, s0, Int.reduceToNat]; done))))
      exact ⟨⟨hpre, o, z, by rw [hlen0]; exact hoge, hz, by rw [hlen0]; exact he, hrow⟩, by simp (decide := true) only [ax, tabs, s0, Int.reduceToNat, AgT_cons, AgT_nil, and_true, y0_2, y0_6, z0_2, z0_6, z0_7]⟩
  · rintro T M' ⟨⟨hpre, o, z, hoge, hz, he, hrow⟩, fr⟩
    rw [hlen0] at hoge he
    have y0_2 := (fr 2 (by decide)).trans z0_2
    have y0_6 := (fr 6 (by decide)).trans z0_6
    have h2 : M'[M.length + 1]? = some (.mem [iv 0, .nils]) := by obtain ⟨J, rfl⟩ := hpre; simp
    have hlt := lt_of_obj he
    have hp3 : M <+: M' := (List.prefix_append _ _).trans hpre
    try (simp (decide := true) only [ax, tabs, s0, Int.reduceToNat, y0_2, y0_6, he, hrow, h2])
    repeat (first
      | refine AW.seq ?_
      | refine AW.blockS ?_
      | ((first | refine AW.skip ?_ | refine AW.exit ?_ | refine AW.opsN rfl ?_ | refine AW.ret ?_); try (simp (decide := true) only [ax, tabs, s0, Int.reduceToNat, y0_2, y0_6, he, hrow, h2]))
      | (refine AW.condT ?_ ?_; (focus (simp (decide := true) only [ax, tabs, s0, Int.reduceToNat, y0_2, y0_6, he, hrow, h2]; done)))
      | (refine AW.condF ?_ ?_; (focus (simp (decide := true) only [ax, tabs, s0, Int.reduceToNat, y0_2, y0_6, he, hrow, h2]; done))))
    have hs : ∀ x, (M'.set (M.length + 1) x)[M.length + 1]? = some x := fun x => List.getElem?_set_self (lt_of_obj h2)
    refine leftN (.inr rfl) (by simp; omega) (by simp (decide := true) only [ax, tabs, s0, Int.reduceToNat, y0_2, y0_6, hs]; rfl) rfl ?_ ⟨o, z, hoge, hz, rfl, by rw [List.getElem?_set_ne (by omega)]; exact hrow, pre_set hp3 (by omega) _⟩
    exact .tup2 (.agg2 (.int _ _) (.sl _ _ _ _ _ (by simp; exact lt_of_obj hrow))) (.bool _)
end Go.Ax
