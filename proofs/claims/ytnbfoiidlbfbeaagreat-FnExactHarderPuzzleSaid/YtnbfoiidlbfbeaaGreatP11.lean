/- The reference's orders and trips. -/
import Derived.Test.YtnbfoiidlbfbeaaGreatP10
set_option linter.unusedVariables false
set_option linter.unusedSimpArgs false
namespace Go.Ax
open Go.Proofs

def posF (ts : List Int) (t : Int) (out : List Int) : Nat → Nat
  | 0 => 0
  | k + 1 => if tm ts (gi out k) > t then posF ts t out k else k + 1
theorem posF_le (ts : List Int) (t : Int) (out : List Int) : ∀ k, posF ts t out k ≤ k
  | 0 => Nat.le_refl _
  | k + 1 => by
    simp only [posF]
    split
    · exact Nat.le_succ_of_le (posF_le ts t out k)
    · exact Nat.le_refl _
theorem posF_gt {ts out : List Int} {t : Int} {d : Nat} (h : ts.getD (out.getD d 0).toNat 0 > t) : posF ts t out (d + 1) = posF ts t out d := by rw [posF, tm, gi, if_pos h]
theorem posF_le' {ts out : List Int} {t : Int} {d : Nat} (h : ¬ ts.getD (out.getD d 0).toNat 0 > t) : posF ts t out (d + 1) = d + 1 := by rw [posF, tm, gi, if_neg h]
def ordStep (ts out : List Int) (i : Int) : List Int := out.take (posF ts (tm ts i) out out.length) ++ i :: out.drop (posF ts (tm ts i) out out.length)
def ordF (ts : List Int) : Nat → List Int
  | 0 => []
  | n + 1 => ordStep ts (ordF ts n) n
theorem ordF_length (ts : List Int) : ∀ n, (ordF ts n).length = n
  | 0 => rfl
  | n + 1 => by
    have h := ordF_length ts n
    have h2 := posF_le ts (tm ts n) (ordF ts n) (ordF ts n).length
    simp only [ordF, ordStep, List.length_append, List.length_take, List.length_cons, List.length_drop]
    omega
theorem ordF_all (ts : List Int) : ∀ n, ∀ z ∈ ordF ts n, 0 ≤ z ∧ z < n
  | 0 => fun z hz => by cases hz
  | n + 1 => fun z hz => by
    have h := ordF_all ts n
    simp only [ordF, ordStep, List.mem_append, List.mem_cons] at hz
    rcases hz with hz | rfl | hz
    · have := h z (List.mem_of_mem_take hz); omega
    · omega
    · have := h z (List.mem_of_mem_drop hz); omega
theorem ints_take (xs : List Int) (k : Nat) : (ints xs).take k = ints (xs.take k) := by simp [ints]
theorem ints_drop' (xs : List Int) (k : Nat) : (ints xs).drop k = ints (xs.drop k) := by simp [ints]
theorem prOrder_ok (ts : List Int) (M : List AO) (hl : ts.length ≤ 1000) : AC E 39 [.fz 1 (ints ts)] M (fun r M' => r = .fz 1 (ints (ordF ts ts.length)) ∧ M' = M) := by
  refine AC.body (fn := Tryz.f39) Tryz.func39 rfl rfl (by simp [Tryz.f39]) fun hcl => ?_
  simp only [Tryz.f39]
  try (simp (decide := true) only [ax, tabs, s0, Int.reduceToNat, ints_length])
  repeat (first
    | refine AW.seq ?_
    | refine AW.blockS ?_
    | ((first | refine AW.skip ?_ | refine AW.exit ?_ | refine AW.opsN rfl ?_ | refine AW.ret ?_); try (simp (decide := true) only [ax, tabs, s0, Int.reduceToNat, ints_length]))
    | (refine AW.condT ?_ ?_; (focus (simp (decide := true) only [ax, tabs, s0, Int.reduceToNat, ints_length]; done)))
    | (refine AW.condF ?_ ?_; (focus (simp (decide := true) only [ax, tabs, s0, Int.reduceToNat, ints_length]; done))))
  refine AW.gen fun T0_ hT0_ => ?_
  have z0_0 := congrFun hT0_ 0
  have z0_8 := congrFun hT0_ 8
  have z0_9 := congrFun hT0_ 9
  have z0_3 := congrFun hT0_ 3
  have z0_10 := congrFun hT0_ 10
  try (simp (decide := true) only [ax, tabs, s0, Int.reduceToNat, ints_length] at z0_0 z0_8 z0_9 z0_3 z0_10)
  clear hT0_
  refine AW.range ts.length (fun i T M' => AgT [0, 8, 9] T T0_ ∧ Tell M' M.length (T 3) (.fz 1 (ints (ordF ts i))) ∧ M <+: M') (by omega) (by simp (decide := true) only [ax, tabs, s0, Int.reduceToNat, z0_0, z0_8, z0_9, z0_3, z0_10, ints_length]) (by simp (decide := true) only [ax, tabs, s0, Int.reduceToNat, z0_0, z0_8, z0_9, z0_3, z0_10, ints_length]) (by decide) (by decide) ⟨AgT_refl _ _, (by first | (simp (decide := true) only [ax, tabs, s0, Int.reduceToNat, z0_0, z0_8, z0_9, z0_3, z0_10, ints_length]; done) | (simp (decide := true) only [ax, tabs, s0, Int.reduceToNat, z0_0, z0_8, z0_9, z0_3, z0_10, ints_length]; rfl) | rfl | (intros; omega) | (simp (decide := true) only [ax, tabs, s0, Int.reduceToNat, z0_0, z0_8, z0_9, z0_3, z0_10, ints_length]; exact Tell.nil _) | (simp (decide := true) only [ax, tabs, s0, Int.reduceToNat, z0_0, z0_8, z0_9, z0_3, z0_10, ints_length]; exact Or.inl ⟨rfl, rfl⟩)), (by first | rfl | exact List.prefix_rfl | (simp; done) | (simp (decide := true) only [ax, tabs, s0, Int.reduceToNat, z0_0, z0_8, z0_9, z0_3, z0_10, ints_length]; done))⟩ ?_ ?_ ?_
  · rintro i T M' r ⟨fr, h1, hM⟩
    try (simp (decide := true) only [ax, tabs, s0, Int.reduceToNat, AgT_upd, fr, hM, h1])
    repeat' (first | assumption | apply And.intro)
  · rintro i T M' hi ⟨fr, h1, J, rfl⟩ hI hN
    have y0_0 := (fr 0 (by decide)).trans z0_0
    have y0_8 := (fr 8 (by decide)).trans z0_8
    have y0_9 := (fr 9 (by decide)).trans z0_9
    try simp only [List.append_assoc, List.cons_append, List.nil_append] at h1
    refine AW.block ?_
    have ty0_0 := tell_eq (M := M ++ J) (n := List.length (M)) y0_0 (by first | exact .of_scal rfl | exact .ptr _ _ _ (by simp; done) | exact .ptr _ _ _ (by simp; omega) | exact .fz _ _ (Els.ints _ _).cl | assumption)
    have ty0_8 := tell_eq (M := M ++ J) (n := List.length (M)) y0_8 (by first | exact .of_scal rfl | exact .ptr _ _ _ (by simp; done) | exact .ptr _ _ _ (by simp; omega) | exact .fz _ _ (Els.ints _ _).cl | assumption)
    have ty0_9 := tell_eq (M := M ++ J) (n := List.length (M)) y0_9 (by first | exact .of_scal rfl | exact .ptr _ _ _ (by simp; done) | exact .ptr _ _ _ (by simp; omega) | exact .fz _ _ (Els.ints _ _).cl | assumption)
    refine AW.tell (M0 := M) (by first | exact Nat.le_refl _ | (simp; done)) (by assumption) (tell_put 10 _ (tell_eq hI (.of_scal rfl)) (tell_put 3 _ h1 (tell_put 9 _ ty0_9 (tell_put 8 _ ty0_8 (tell_put 0 _ ty0_0 (tell_none _ _ _)))))) ?_
    have hg := ints_get (xs := ts) hi
    have hol := ordF_length ts i
    have hoa := ordF_all ts i
    generalize hord : ordF ts i = out at *
    try (simp (decide := true) only [ax, tabs, s0, Int.reduceToNat, ints_length, hi, hg, hol])
    repeat (first
      | refine AW.seq ?_
      | refine AW.blockS ?_
      | ((first | refine AW.skip ?_ | refine AW.exit ?_ | refine AW.opsN rfl ?_ | refine AW.ret ?_); try (simp (decide := true) only [ax, tabs, s0, Int.reduceToNat, ints_length, hi, hg, hol]))
      | (refine AW.condT ?_ ?_; (focus (simp (decide := true) only [ax, tabs, s0, Int.reduceToNat, ints_length, hi, hg, hol]; done)))
      | (refine AW.condF ?_ ?_; (focus (simp (decide := true) only [ax, tabs, s0, Int.reduceToNat, ints_length, hi, hg, hol]; done))))
    refine AW.gen fun T2_ hT2_ => ?_
    have z2_0 := congrFun hT2_ 0
    have z2_3 := congrFun hT2_ 3
    have z2_4 := congrFun hT2_ 4
    have z2_5 := congrFun hT2_ 5
    have z2_8 := congrFun hT2_ 8
    have z2_9 := congrFun hT2_ 9
    have z2_10 := congrFun hT2_ 10
    have z2_6 := congrFun hT2_ 6
    try (simp (decide := true) only [ax, tabs, s0, Int.reduceToNat] at z2_0 z2_3 z2_4 z2_5 z2_8 z2_9 z2_10 z2_6)
    clear hT2_
    refine AW.blockP (fun T M' => T 6 = iv (posF ts (ts.getD i 0) out i) ∧ AgT [0, 3, 4, 5, 8, 9, 10] T T2_ ∧ M' = M) (AW.loop (fun d T M' => d ≤ i ∧ posF ts (ts.getD i 0) out d = posF ts (ts.getD i 0) out i ∧ T 6 = iv d ∧ AgT [0, 3, 4, 5, 8, 9, 10] T T2_ ∧ M' = M) i ⟨Nat.le_refl _, rfl, by simp (decide := true) only [ax, tabs, s0, Int.reduceToNat, z2_0, z2_3, z2_4, z2_5, z2_8, z2_9, z2_10, z2_6], AgT_refl _ _, rfl⟩ ?_) ?_
    · rintro d T M' ⟨hd, hp, h6, fr, rfl⟩
      have y2_0 := (fr 0 (by decide)).trans z2_0
      have y2_3 := (fr 3 (by decide)).trans z2_3
      have y2_4 := (fr 4 (by decide)).trans z2_4
      have y2_5 := (fr 5 (by decide)).trans z2_5
      have y2_8 := (fr 8 (by decide)).trans z2_8
      have y2_9 := (fr 9 (by decide)).trans z2_9
      have y2_10 := (fr 10 (by decide)).trans z2_10
      cases d with
      | zero =>
        have e0 : decide ((0 : Int) < ((0 : Nat) : Int)) = false := rfl
        have hp' : posF ts (ts.getD i 0) out i = 0 := by rw [← hp]; rfl
        try (simp (decide := true) only [ax, tabs, s0, Int.reduceToNat, h6, AgT_cons, AgT_nil, and_true, y2_0, z2_0, y2_3, z2_3, y2_4, z2_4, y2_5, z2_5, y2_8, z2_8, y2_9, z2_9, y2_10, z2_10, e0, hp'])
        repeat (first
          | refine AW.seq ?_
          | refine AW.blockS ?_
          | ((first | refine AW.skip ?_ | refine AW.exit ?_ | refine AW.opsN rfl ?_ | refine AW.ret ?_); try (simp (decide := true) only [ax, tabs, s0, Int.reduceToNat, h6, AgT_cons, AgT_nil, and_true, y2_0, z2_0, y2_3, z2_3, y2_4, z2_4, y2_5, z2_5, y2_8, z2_8, y2_9, z2_9, y2_10, z2_10, e0, hp']))
          | (refine AW.condT ?_ ?_; (focus (simp (decide := true) only [ax, tabs, s0, Int.reduceToNat, h6, AgT_cons, AgT_nil, and_true, y2_0, z2_0, y2_3, z2_3, y2_4, z2_4, y2_5, z2_5, y2_8, z2_8, y2_9, z2_9, y2_10, z2_10, e0, hp']; done)))
          | (refine AW.condF ?_ ?_; (focus (simp (decide := true) only [ax, tabs, s0, Int.reduceToNat, h6, AgT_cons, AgT_nil, and_true, y2_0, z2_0, y2_3, z2_3, y2_4, z2_4, y2_5, z2_5, y2_8, z2_8, y2_9, z2_9, y2_10, z2_10, e0, hp']; done))))
      | succ d =>
        have e0 : decide ((0 : Int) < ((d + 1 : Nat) : Int)) = true := decide_eq_true (by omega)
        have w := wrap_pred (j := d) (by omega)
        have g := ints_get (xs := out) (i := d) (by omega)
        obtain ⟨k1, k2⟩ := getD_all hoa (j := d) (by omega)
        have g2 := ints_get (xs := ts) (i := (out.getD d 0).toNat) (by omega)
        have k3 : out.getD d 0 < ts.length := by omega
        have l0 : d < i := by omega
        try (simp (decide := true) only [ax, tabs, s0, Int.reduceToNat, h6, AgT_cons, AgT_nil, and_true, y2_0, z2_0, y2_3, z2_3, y2_4, z2_4, y2_5, z2_5, y2_8, z2_8, y2_9, z2_9, y2_10, z2_10, e0, w, g, k1, k3, g2, ints_length, l0, hol])
        repeat (first
          | refine AW.seq ?_
          | refine AW.blockS ?_
          | ((first | refine AW.skip ?_ | refine AW.exit ?_ | refine AW.opsN rfl ?_ | refine AW.ret ?_); try (simp (decide := true) only [ax, tabs, s0, Int.reduceToNat, h6, AgT_cons, AgT_nil, and_true, y2_0, z2_0, y2_3, z2_3, y2_4, z2_4, y2_5, z2_5, y2_8, z2_8, y2_9, z2_9, y2_10, z2_10, e0, w, g, k1, k3, g2, ints_length, l0, hol]))
          | (refine AW.condT ?_ ?_; (focus (simp (decide := true) only [ax, tabs, s0, Int.reduceToNat, h6, AgT_cons, AgT_nil, and_true, y2_0, z2_0, y2_3, z2_3, y2_4, z2_4, y2_5, z2_5, y2_8, z2_8, y2_9, z2_9, y2_10, z2_10, e0, w, g, k1, k3, g2, ints_length, l0, hol]; done)))
          | (refine AW.condF ?_ ?_; (focus (simp (decide := true) only [ax, tabs, s0, Int.reduceToNat, h6, AgT_cons, AgT_nil, and_true, y2_0, z2_0, y2_3, z2_3, y2_4, z2_4, y2_5, z2_5, y2_8, z2_8, y2_9, z2_9, y2_10, z2_10, e0, w, g, k1, k3, g2, ints_length, l0, hol]; done))))
        repeat refine AW.seq ?_
        refine AW.cond (decide (ts.getD (out.getD d 0).toNat 0 > ts.getD i 0)) (by simp (decide := true) only [ax, tabs, s0, Int.reduceToNat, AgT_cons, AgT_nil, and_true, y2_0, z2_0, y2_3, z2_3, y2_4, z2_4, y2_5, z2_5, y2_8, z2_8, y2_9, z2_9, y2_10, z2_10]) (fun h => ?_) (fun h => ?_)
        · have hgt := of_decide_eq_true h
          try (simp (decide := true) only [ax, tabs, s0, Int.reduceToNat])
          repeat (first
            | refine AW.seq ?_
            | refine AW.blockS ?_
            | ((first | refine AW.skip ?_ | refine AW.exit ?_ | refine AW.opsN rfl ?_ | refine AW.ret ?_); try (simp (decide := true) only [ax, tabs, s0, Int.reduceToNat]))
            | (refine AW.condT ?_ ?_; (focus (simp (decide := true) only [ax, tabs, s0, Int.reduceToNat]; done)))
            | (refine AW.condF ?_ ?_; (focus (simp (decide := true) only [ax, tabs, s0, Int.reduceToNat]; done))))
          refine AW.block ?_
          try (simp (decide := true) only [ax, tabs, s0, Int.reduceToNat, h6, AgT_cons, AgT_nil, and_true, y2_0, z2_0, y2_3, z2_3, y2_4, z2_4, y2_5, z2_5, y2_8, z2_8, y2_9, z2_9, y2_10, z2_10, w])
          repeat (first
            | refine AW.seq ?_
            | refine AW.blockS ?_
            | ((first | refine AW.skip ?_ | refine AW.exit ?_ | refine AW.opsN rfl ?_ | refine AW.ret ?_); try (simp (decide := true) only [ax, tabs, s0, Int.reduceToNat, h6, AgT_cons, AgT_nil, and_true, y2_0, z2_0, y2_3, z2_3, y2_4, z2_4, y2_5, z2_5, y2_8, z2_8, y2_9, z2_9, y2_10, z2_10, w]))
            | (refine AW.condT ?_ ?_; (focus (simp (decide := true) only [ax, tabs, s0, Int.reduceToNat, h6, AgT_cons, AgT_nil, and_true, y2_0, z2_0, y2_3, z2_3, y2_4, z2_4, y2_5, z2_5, y2_8, z2_8, y2_9, z2_9, y2_10, z2_10, w]; done)))
            | (refine AW.condF ?_ ?_; (focus (simp (decide := true) only [ax, tabs, s0, Int.reduceToNat, h6, AgT_cons, AgT_nil, and_true, y2_0, z2_0, y2_3, z2_3, y2_4, z2_4, y2_5, z2_5, y2_8, z2_8, y2_9, z2_9, y2_10, z2_10, w]; done))))
          refine ⟨d, by omega, by omega, ?_, rfl⟩
          rw [← hp]; exact (posF_gt hgt).symm
        · have hgt := of_decide_eq_false h
          have hp' : posF ts (ts.getD i 0) out i = d + 1 := by rw [← hp]; exact posF_le' hgt
          try (simp (decide := true) only [ax, tabs, s0, Int.reduceToNat, h6, AgT_cons, AgT_nil, and_true, y2_0, z2_0, y2_3, z2_3, y2_4, z2_4, y2_5, z2_5, y2_8, z2_8, y2_9, z2_9, y2_10, z2_10, hp'])
          repeat (first
            | refine AW.seq ?_
            | refine AW.blockS ?_
            | ((first | refine AW.skip ?_ | refine AW.exit ?_ | refine AW.opsN rfl ?_ | refine AW.ret ?_); try (simp (decide := true) only [ax, tabs, s0, Int.reduceToNat, h6, AgT_cons, AgT_nil, and_true, y2_0, z2_0, y2_3, z2_3, y2_4, z2_4, y2_5, z2_5, y2_8, z2_8, y2_9, z2_9, y2_10, z2_10, hp']))
            | (refine AW.condT ?_ ?_; (focus (simp (decide := true) only [ax, tabs, s0, Int.reduceToNat, h6, AgT_cons, AgT_nil, and_true, y2_0, z2_0, y2_3, z2_3, y2_4, z2_4, y2_5, z2_5, y2_8, z2_8, y2_9, z2_9, y2_10, z2_10, hp']; done)))
            | (refine AW.condF ?_ ?_; (focus (simp (decide := true) only [ax, tabs, s0, Int.reduceToNat, h6, AgT_cons, AgT_nil, and_true, y2_0, z2_0, y2_3, z2_3, y2_4, z2_4, y2_5, z2_5, y2_8, z2_8, y2_9, z2_9, y2_10, z2_10, hp']; done))))
    · rintro T M' ⟨h6, fr, rfl⟩
      have y2_0 := (fr 0 (by decide)).trans z2_0
      have y2_3 := (fr 3 (by decide)).trans z2_3
      have y2_4 := (fr 4 (by decide)).trans z2_4
      have y2_5 := (fr 5 (by decide)).trans z2_5
      have y2_8 := (fr 8 (by decide)).trans z2_8
      have y2_9 := (fr 9 (by decide)).trans z2_9
      have y2_10 := (fr 10 (by decide)).trans z2_10
      have hk := posF_le ts (ts.getD i 0) out i
      generalize hkk : posF ts (ts.getD i 0) out i = k at *
      have l1 : (out.take k).length = k := by simp; omega
      have b1 : (k + 1) * 8 ≤ 140737488355328 := by omega
      have l2 : (out.drop k).length = i - k := by simp; omega
      have b2 : (k + 1 + (i - k)) * 8 ≤ 140737488355328 := by omega
      try (simp (decide := true) only [ax, tabs, s0, Int.reduceToNat, h6, AgT_cons, AgT_nil, and_true, y2_0, z2_0, y2_3, z2_3, y2_4, z2_4, y2_5, z2_5, y2_8, z2_8, y2_9, z2_9, y2_10, z2_10, ints_length, hol, hk, ints_take, Nat.sub_zero])
      repeat (first
        | refine AW.seq ?_
        | refine AW.blockS ?_
        | ((first | refine AW.skip ?_ | refine AW.exit ?_ | refine AW.ops ?_ | refine AW.ret ?_); try (simp (decide := true) only [ax, tabs, s0, Int.reduceToNat, h6, AgT_cons, AgT_nil, and_true, y2_0, z2_0, y2_3, z2_3, y2_4, z2_4, y2_5, z2_5, y2_8, z2_8, y2_9, z2_9, y2_10, z2_10, ints_length, hol, hk, ints_take, Nat.sub_zero]))
        | (refine AW.condT ?_ ?_; (focus (simp (decide := true) only [ax, tabs, s0, Int.reduceToNat, h6, AgT_cons, AgT_nil, and_true, y2_0, z2_0, y2_3, z2_3, y2_4, z2_4, y2_5, z2_5, y2_8, z2_8, y2_9, z2_9, y2_10, z2_10, ints_length, hol, hk, ints_take, Nat.sub_zero]; done)))
        | (refine AW.condF ?_ ?_; (focus (simp (decide := true) only [ax, tabs, s0, Int.reduceToNat, h6, AgT_cons, AgT_nil, and_true, y2_0, z2_0, y2_3, z2_3, y2_4, z2_4, y2_5, z2_5, y2_8, z2_8, y2_9, z2_9, y2_10, z2_10, ints_length, hol, hk, ints_take, Nat.sub_zero]; done))))
      have hown := l1Own_row (out.take k) M' (by omega)
      rw [l1] at hown
      refine AC.det hown ?_
      try (simp (decide := true) only [ax, tabs, s0, Int.reduceToNat, h6, AgT_cons, AgT_nil, and_true, y2_0, z2_0, y2_3, z2_3, y2_4, z2_4, y2_5, z2_5, y2_8, z2_8, y2_9, z2_9, y2_10, z2_10, ints_length, hol, hk, ints_take, ints_drop', flat_ints, ints_all, l1, l2, b1, b2])
      repeat (first
        | refine AW.seq ?_
        | refine AW.blockS ?_
        | ((first | refine AW.skip ?_ | refine AW.exit ?_ | refine AW.opsN rfl ?_ | refine AW.ret ?_); try (simp (decide := true) only [ax, tabs, s0, Int.reduceToNat, h6, AgT_cons, AgT_nil, and_true, y2_0, z2_0, y2_3, z2_3, y2_4, z2_4, y2_5, z2_5, y2_8, z2_8, y2_9, z2_9, y2_10, z2_10, ints_length, hol, hk, ints_take, ints_drop', flat_ints, ints_all, l1, l2, b1, b2]))
        | (refine AW.condT ?_ ?_; (focus (simp (decide := true) only [ax, tabs, s0, Int.reduceToNat, h6, AgT_cons, AgT_nil, and_true, y2_0, z2_0, y2_3, z2_3, y2_4, z2_4, y2_5, z2_5, y2_8, z2_8, y2_9, z2_9, y2_10, z2_10, ints_length, hol, hk, ints_take, ints_drop', flat_ints, ints_all, l1, l2, b1, b2]; done)))
        | (refine AW.condF ?_ ?_; (focus (simp (decide := true) only [ax, tabs, s0, Int.reduceToNat, h6, AgT_cons, AgT_nil, and_true, y2_0, z2_0, y2_3, z2_3, y2_4, z2_4, y2_5, z2_5, y2_8, z2_8, y2_9, z2_9, y2_10, z2_10, ints_length, hol, hk, ints_take, ints_drop', flat_ints, ints_all, l1, l2, b1, b2]; done))))
      have e : List.take (i - k) (List.drop k out) = List.drop k out := List.take_of_length_le (by omega)
      have e2 : ordF ts (i + 1) = out.take k ++ (i : Int) :: out.drop k := by simp only [ordF, ordStep, hord, hol]; simp only [tm, Int.toNat_natCast, hkk]
      have e3 : ints (List.take k out) ++ [AV.int IntKind.i64 ↑i] ++ ints (List.drop k out) = ints (ordF ts (i + 1)) := by rw [e2]; simp [ints]
      have e4 : k + (1 + (i - k)) = (ordF ts (i + 1)).length := by rw [ordF_length]; omega
      rw [e, l2, e3, e4]
      refine ⟨Nat.le_refl _, by simp [ints_length, l1], by rw [ordF_length]; omega, ⟨z0_0.symm, z0_8.symm, z0_9.symm⟩, tell_ints (by simp) (Nat.le_refl _), List.prefix_append _ _⟩
  · rintro T M' ⟨fr, h1, J, rfl⟩
    have y0_0 := (fr 0 (by decide)).trans z0_0
    have y0_8 := (fr 8 (by decide)).trans z0_8
    have y0_9 := (fr 9 (by decide)).trans z0_9
    try simp only [List.append_assoc, List.cons_append, List.nil_append] at h1
    try (simp (decide := true) only [ax, tabs, s0, Int.reduceToNat, AgT_cons, AgT_nil, and_true, y0_0, z0_0, y0_8, z0_8, y0_9, z0_9, h1])
    repeat (first
      | refine AW.seq ?_
      | refine AW.blockS ?_
      | ((first | refine AW.skip ?_ | refine AW.exit ?_ | refine AW.opsN rfl ?_ | refine AW.ret ?_); try (simp (decide := true) only [ax, tabs, s0, Int.reduceToNat, AgT_cons, AgT_nil, and_true, y0_0, z0_0, y0_8, z0_8, y0_9, z0_9, h1]))
      | (refine AW.condT ?_ ?_; (focus (simp (decide := true) only [ax, tabs, s0, Int.reduceToNat, AgT_cons, AgT_nil, and_true, y0_0, z0_0, y0_8, z0_8, y0_9, z0_9, h1]; done)))
      | (refine AW.condF ?_ ?_; (focus (simp (decide := true) only [ax, tabs, s0, Int.reduceToNat, AgT_cons, AgT_nil, and_true, y0_0, z0_0, y0_8, z0_8, y0_9, z0_9, h1]; done))))
    refine left (.inr rfl) hcl (Nat.le_refl _) (by simp (decide := true) only [ax, tabs, s0, Int.reduceToNat]; rfl) ?_ ⟨rfl, rfl⟩
    try (simp (decide := true) only [ax, tabs, s0, Int.reduceToNat])
    exact h1
end Go.Ax
