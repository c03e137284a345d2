/- The reference: what clues tell of times. -/
import Derived.Test.YtnbfoiidlbfbeaaGreatP13
set_option linter.unusedVariables false
set_option linter.unusedSimpArgs false
namespace Go.Ax
open Go.Proofs

def pzVal (kind a : Int) (ts : List Int) : Int :=
  if kind = 0 then tm ts a else if kind = 1 then sumF ts else if kind = 2 then pairT ts false else if kind = 3 then pairT ts true else if kind = 4 then tm ts a - tm ts 0 else evenF ts
theorem pzValue_ok (kind a : Int) (ts : List Int) (M : List AO) (h0 : 1 ≤ ts.length) (hl : ts.length ≤ 12) (hts : ∀ t ∈ ts, 0 ≤ t ∧ t ≤ 1000000) (ha : 0 ≤ a ∧ a < ts.length) :
    AC E 143 [iv kind, iv a, .fz 1 (ints ts)] M (fun r M' => r = iv (pzVal kind a ts) ∧ M' = M) := by
  refine AC.body (fn := Tryz.f143) Tryz.func143 rfl rfl (by simp [Tryz.f143]) fun hcl => ?_
  simp only [Tryz.f143]
  try (simp (decide := true) only [ax, tabs, s0, Int.reduceToNat, ints_length])
  repeat (first
    | refine AW.seq ?_
    | refine AW.blockS ?_
    | ((first | refine AW.skip ?_ | refine AW.exit ?_ | refine AW.opsN rfl ?_ | refine AW.ret ?_); try (simp (decide := true) only [ax, tabs, s0, Int.reduceToNat, ints_length]))
    | (refine AW.condT ?_ ?_; (focus (simp (decide := true) only [ax, tabs, s0, Int.reduceToNat, ints_length]; done)))
    | (refine AW.condF ?_ ?_; (focus (simp (decide := true) only [ax, tabs, s0, Int.reduceToNat, ints_length]; done))))
  refine AW.gen fun T0_ hT0_ => ?_
  have z0_0 := congrFun hT0_ 0
  have z0_1 := congrFun hT0_ 1
  have z0_2 := congrFun hT0_ 2
  have z0_14 := congrFun hT0_ 14
  have z0_15 := congrFun hT0_ 15
  have z0_7 := congrFun hT0_ 7
  have z0_8 := congrFun hT0_ 8
  have z0_16 := congrFun hT0_ 16
  try (simp (decide := true) only [ax, tabs, s0, Int.reduceToNat, ints_length] at z0_0 z0_1 z0_2 z0_14 z0_15 z0_7 z0_8 z0_16)
  clear hT0_
  refine AW.range ts.length (fun i T M' => AgT [0, 1, 2, 14, 15] T T0_ ∧ T 7 = iv (sumF (ts.take i)) ∧ T 8 = iv (evenF (ts.take i)) ∧ M' = M) (by omega) (by simp (decide := true) only [ax, tabs, s0, Int.reduceToNat, z0_0, z0_1, z0_2, z0_14, z0_15, z0_7, z0_8, z0_16, ints_length]) (by simp (decide := true) only [ax, tabs, s0, Int.reduceToNat, z0_0, z0_1, z0_2, z0_14, z0_15, z0_7, z0_8, z0_16, ints_length]) (by decide) (by decide) ⟨AgT_refl _ _, (by first | (simp (decide := true) only [ax, tabs, s0, Int.reduceToNat, z0_0, z0_1, z0_2, z0_14, z0_15, z0_7, z0_8, z0_16, ints_length]; done) | (simp (decide := true) only [ax, tabs, s0, Int.reduceToNat, z0_0, z0_1, z0_2, z0_14, z0_15, z0_7, z0_8, z0_16, ints_length]; rfl) | rfl | (intros; omega) | (simp (decide := true) only [ax, tabs, s0, Int.reduceToNat, z0_0, z0_1, z0_2, z0_14, z0_15, z0_7, z0_8, z0_16, ints_length]; exact Tell.nil _) | (simp (decide := true) only [ax, tabs, s0, Int.reduceToNat, z0_0, z0_1, z0_2, z0_14, z0_15, z0_7, z0_8, z0_16, ints_length]; exact Or.inl ⟨rfl, rfl⟩)), (by first | (simp (decide := true) only [ax, tabs, s0, Int.reduceToNat, z0_0, z0_1, z0_2, z0_14, z0_15, z0_7, z0_8, z0_16, ints_length]; done) | (simp (decide := true) only [ax, tabs, s0, Int.reduceToNat, z0_0, z0_1, z0_2, z0_14, z0_15, z0_7, z0_8, z0_16, ints_length]; rfl) | rfl | (intros; omega) | (simp (decide := true) only [ax, tabs, s0, Int.reduceToNat, z0_0, z0_1, z0_2, z0_14, z0_15, z0_7, z0_8, z0_16, ints_length]; exact Tell.nil _) | (simp (decide := true) only [ax, tabs, s0, Int.reduceToNat, z0_0, z0_1, z0_2, z0_14, z0_15, z0_7, z0_8, z0_16, ints_length]; exact Or.inl ⟨rfl, rfl⟩)), (by first | rfl | exact List.prefix_rfl | (simp; done) | (simp (decide := true) only [ax, tabs, s0, Int.reduceToNat, z0_0, z0_1, z0_2, z0_14, z0_15, z0_7, z0_8, z0_16, ints_length]; done))⟩ ?_ ?_ ?_
  · rintro i T M' r ⟨fr, h1, h2, hM⟩
    try (simp (decide := true) only [ax, tabs, s0, Int.reduceToNat, AgT_upd, fr, hM, h1, h2])
    repeat' (first | assumption | apply And.intro)
  · rintro i T M' hi ⟨fr, h1, h2, rfl⟩ hI hN
    have y0_0 := (fr 0 (by decide)).trans z0_0
    have y0_1 := (fr 1 (by decide)).trans z0_1
    have y0_2 := (fr 2 (by decide)).trans z0_2
    have y0_14 := (fr 14 (by decide)).trans z0_14
    have y0_15 := (fr 15 (by decide)).trans z0_15
    refine AW.block ?_
    have hg := ints_get (xs := ts) hi
    obtain ⟨k1, k2⟩ := getD_all hts hi
    obtain ⟨b1, b2⟩ := sumF_bound (l := ts.take i) fun x hx => hts x (List.mem_of_mem_take hx)
    obtain ⟨b3, b4⟩ := evenF_bound (l := ts.take i) fun x hx => hts x (List.mem_of_mem_take hx)
    have hlen : (ts.take i).length ≤ 12 := by simp; omega
    obtain ⟨m1, m2⟩ := tmod2 k1
    have e1 : IntKind.i64.wrap (sumF (ts.take i) + ts.getD i 0) = sumF (ts.take (i + 1)) := by
      rw [wrap_in (by omega) (by omega)]
      unfold sumF
      rw [take_fold _ _ _ hi]
    have e2 : evenF (ts.take (i + 1)) = evenF (ts.take i) + (1 - (ts.getD i 0).tmod 2) := by
      unfold evenF
      rw [take_fold _ _ _ hi]
    try (simp (decide := true) only [ax, tabs, s0, Int.reduceToNat, AgT_cons, AgT_nil, and_true, y0_0, z0_0, y0_1, z0_1, y0_2, z0_2, y0_14, z0_14, y0_15, z0_15, h1, h2, hI, hN, ints_length, hi, hg, e1])
    repeat (first
      | refine AW.seq ?_
      | refine AW.blockS ?_
      | ((first | refine AW.skip ?_ | refine AW.exit ?_ | refine AW.opsN rfl ?_ | refine AW.ret ?_); try (simp (decide := true) only [ax, tabs, s0, Int.reduceToNat, AgT_cons, AgT_nil, and_true, y0_0, z0_0, y0_1, z0_1, y0_2, z0_2, y0_14, z0_14, y0_15, z0_15, h1, h2, hI, hN, ints_length, hi, hg, e1]))
      | (refine AW.condT ?_ ?_; (focus (simp (decide := true) only [ax, tabs, s0, Int.reduceToNat, AgT_cons, AgT_nil, and_true, y0_0, z0_0, y0_1, z0_1, y0_2, z0_2, y0_14, z0_14, y0_15, z0_15, h1, h2, hI, hN, ints_length, hi, hg, e1]; done)))
      | (refine AW.condF ?_ ?_; (focus (simp (decide := true) only [ax, tabs, s0, Int.reduceToNat, AgT_cons, AgT_nil, and_true, y0_0, z0_0, y0_1, z0_1, y0_2, z0_2, y0_14, z0_14, y0_15, z0_15, h1, h2, hI, hN, ints_length, hi, hg, e1]; done))))
    repeat refine AW.seq ?_
    refine AW.cond (decide ((ts.getD i 0).tmod 2 = 0)) (by simp (decide := true) only [ax, tabs, s0, Int.reduceToNat]) (fun h => ?_) (fun h => ?_)
    · have h3 := of_decide_eq_true h
      have e3 : IntKind.i64.wrap (evenF (ts.take i) + 1) = evenF (ts.take (i + 1)) := by rw [wrap_in (by omega) (by omega), e2]; omega
      try (simp (decide := true) only [ax, tabs, s0, Int.reduceToNat, AgT_cons, AgT_nil, and_true, y0_0, z0_0, y0_1, z0_1, y0_2, z0_2, y0_14, z0_14, y0_15, z0_15, h1, h2, hI, hN, e3])
      repeat (first
        | refine AW.seq ?_
        | refine AW.blockS ?_
        | ((first | refine AW.skip ?_ | refine AW.exit ?_ | refine AW.opsN rfl ?_ | refine AW.ret ?_); try (simp (decide := true) only [ax, tabs, s0, Int.reduceToNat, AgT_cons, AgT_nil, and_true, y0_0, z0_0, y0_1, z0_1, y0_2, z0_2, y0_14, z0_14, y0_15, z0_15, h1, h2, hI, hN, e3]))
        | (refine AW.condT ?_ ?_; (focus (simp (decide := true) only [ax, tabs, s0, Int.reduceToNat, AgT_cons, AgT_nil, and_true, y0_0, z0_0, y0_1, z0_1, y0_2, z0_2, y0_14, z0_14, y0_15, z0_15, h1, h2, hI, hN, e3]; done)))
        | (refine AW.condF ?_ ?_; (focus (simp (decide := true) only [ax, tabs, s0, Int.reduceToNat, AgT_cons, AgT_nil, and_true, y0_0, z0_0, y0_1, z0_1, y0_2, z0_2, y0_14, z0_14, y0_15, z0_15, h1, h2, hI, hN, e3]; done))))
    · have h3 := of_decide_eq_false h
      have e3 : evenF (ts.take i) = evenF (ts.take (i + 1)) := by rw [e2]; omega
      try (simp (decide := true) only [ax, tabs, s0, Int.reduceToNat, AgT_cons, AgT_nil, and_true, y0_0, z0_0, y0_1, z0_1, y0_2, z0_2, y0_14, z0_14, y0_15, z0_15, h1, h2, hI, hN, ← e3])
      repeat (first
        | refine AW.seq ?_
        | refine AW.blockS ?_
        | ((first | refine AW.skip ?_ | refine AW.exit ?_ | refine AW.opsN rfl ?_ | refine AW.ret ?_); try (simp (decide := true) only [ax, tabs, s0, Int.reduceToNat, AgT_cons, AgT_nil, and_true, y0_0, z0_0, y0_1, z0_1, y0_2, z0_2, y0_14, z0_14, y0_15, z0_15, h1, h2, hI, hN, ← e3]))
        | (refine AW.condT ?_ ?_; (focus (simp (decide := true) only [ax, tabs, s0, Int.reduceToNat, AgT_cons, AgT_nil, and_true, y0_0, z0_0, y0_1, z0_1, y0_2, z0_2, y0_14, z0_14, y0_15, z0_15, h1, h2, hI, hN, ← e3]; done)))
        | (refine AW.condF ?_ ?_; (focus (simp (decide := true) only [ax, tabs, s0, Int.reduceToNat, AgT_cons, AgT_nil, and_true, y0_0, z0_0, y0_1, z0_1, y0_2, z0_2, y0_14, z0_14, y0_15, z0_15, h1, h2, hI, hN, ← e3]; done))))
  · rintro T M' ⟨fr, h1, h2, rfl⟩
    have y0_0 := (fr 0 (by decide)).trans z0_0
    have y0_1 := (fr 1 (by decide)).trans z0_1
    have y0_2 := (fr 2 (by decide)).trans z0_2
    have y0_14 := (fr 14 (by decide)).trans z0_14
    have y0_15 := (fr 15 (by decide)).trans z0_15
    rw [List.take_length] at h1 h2
    have g0 := ints_get (xs := ts) (i := 0) (by omega)
    have ga := ints_get (xs := ts) (i := a.toNat) (by omega)
    have m0 : (0 : Int) < ts.length := by omega
    have b0 : 0 ≤ ts.getD 0 0 ∧ ts.getD 0 0 ≤ 1000000 := getD_all hts (by omega)
    have ba : 0 ≤ ts.getD a.toNat 0 ∧ ts.getD a.toNat 0 ≤ 1000000 := getD_all hts (by omega)
    have w1 : IntKind.i64.wrap (ts.getD a.toNat 0 - ts.getD 0 0) = ts.getD a.toNat 0 - ts.getD 0 0 := wrap_in (by omega) (by omega)
    try (simp (decide := true) only [ax, tabs, s0, Int.reduceToNat, AgT_cons, AgT_nil, and_true, y0_0, z0_0, y0_1, z0_1, y0_2, z0_2, y0_14, z0_14, y0_15, z0_15, h1, h2])
    repeat (first
      | refine AW.seq ?_
      | refine AW.blockS ?_
      | ((first | refine AW.skip ?_ | refine AW.exit ?_ | refine AW.opsN rfl ?_ | refine AW.ret ?_); try (simp (decide := true) only [ax, tabs, s0, Int.reduceToNat, AgT_cons, AgT_nil, and_true, y0_0, z0_0, y0_1, z0_1, y0_2, z0_2, y0_14, z0_14, y0_15, z0_15, h1, h2]))
      | (refine AW.condT ?_ ?_; (focus (simp (decide := true) only [ax, tabs, s0, Int.reduceToNat, AgT_cons, AgT_nil, and_true, y0_0, z0_0, y0_1, z0_1, y0_2, z0_2, y0_14, z0_14, y0_15, z0_15, h1, h2]; done)))
      | (refine AW.condF ?_ ?_; (focus (simp (decide := true) only [ax, tabs, s0, Int.reduceToNat, AgT_cons, AgT_nil, and_true, y0_0, z0_0, y0_1, z0_1, y0_2, z0_2, y0_14, z0_14, y0_15, z0_15, h1, h2]; done))))
    repeat refine AW.seq ?_
    refine AW.cond (decide (kind = 0)) (by simp (decide := true) only [ax, tabs, s0, Int.reduceToNat, AgT_cons, AgT_nil, and_true, y0_0, z0_0, y0_1, z0_1, y0_2, z0_2, y0_14, z0_14, y0_15, z0_15, h1, h2]) (fun h => ?_) (fun h => ?_)
    · have k0 := of_decide_eq_true h
      try (simp (decide := true) only [ax, tabs, s0, Int.reduceToNat, AgT_cons, AgT_nil, and_true, y0_0, z0_0, y0_1, z0_1, y0_2, z0_2, y0_14, z0_14, y0_15, z0_15, h1, h2, ints_length, ha.1, ha.2, ga])
      repeat (first
        | refine AW.seq ?_
        | refine AW.blockS ?_
        | ((first | refine AW.skip ?_ | refine AW.exit ?_ | refine AW.opsN rfl ?_ | refine AW.ret ?_); try (simp (decide := true) only [ax, tabs, s0, Int.reduceToNat, AgT_cons, AgT_nil, and_true, y0_0, z0_0, y0_1, z0_1, y0_2, z0_2, y0_14, z0_14, y0_15, z0_15, h1, h2, ints_length, ha.1, ha.2, ga]))
        | (refine AW.condT ?_ ?_; (focus (simp (decide := true) only [ax, tabs, s0, Int.reduceToNat, AgT_cons, AgT_nil, and_true, y0_0, z0_0, y0_1, z0_1, y0_2, z0_2, y0_14, z0_14, y0_15, z0_15, h1, h2, ints_length, ha.1, ha.2, ga]; done)))
        | (refine AW.condF ?_ ?_; (focus (simp (decide := true) only [ax, tabs, s0, Int.reduceToNat, AgT_cons, AgT_nil, and_true, y0_0, z0_0, y0_1, z0_1, y0_2, z0_2, y0_14, z0_14, y0_15, z0_15, h1, h2, ints_length, ha.1, ha.2, ga]; done))))
      first
        | refine leftJ (.inr rfl) hcl (Nat.le_refl _) (by simp (decide := true) only [ax, tabs, s0, Int.reduceToNat]; rfl) ?_ rfl ⟨rfl, rfl⟩
        | refine leftS (.inr rfl) hcl (Nat.le_refl _) (by simp (decide := true) only [ax, tabs, s0, Int.reduceToNat]; rfl) ?_ rfl ⟨rfl, rfl⟩
      simp (decide := true) only [ax, tabs, s0, Int.reduceToNat, pzVal, if_pos k0, tm]
    have k0 := of_decide_eq_false h
    try (simp (decide := true) only [ax, tabs, s0, Int.reduceToNat])
    repeat (first
      | refine AW.seq ?_
      | refine AW.blockS ?_
      | ((first | refine AW.skip ?_ | refine AW.exit ?_ | refine AW.opsN rfl ?_ | refine AW.ret ?_); try (simp (decide := true) only [ax, tabs, s0, Int.reduceToNat]))
      | (refine AW.condT ?_ ?_; (focus (simp (decide := true) only [ax, tabs, s0, Int.reduceToNat]; done)))
      | (refine AW.condF ?_ ?_; (focus (simp (decide := true) only [ax, tabs, s0, Int.reduceToNat]; done))))
    repeat refine AW.seq ?_
    refine AW.cond (decide (kind = 1)) (by simp (decide := true) only [ax, tabs, s0, Int.reduceToNat, AgT_cons, AgT_nil, and_true, y0_0, z0_0, y0_1, z0_1, y0_2, z0_2, y0_14, z0_14, y0_15, z0_15, h1, h2]) (fun h => ?_) (fun h => ?_)
    · have k1 := of_decide_eq_true h
      try (simp (decide := true) only [ax, tabs, s0, Int.reduceToNat, AgT_cons, AgT_nil, and_true, y0_0, z0_0, y0_1, z0_1, y0_2, z0_2, y0_14, z0_14, y0_15, z0_15, h1, h2])
      repeat (first
        | refine AW.seq ?_
        | refine AW.blockS ?_
        | ((first | refine AW.skip ?_ | refine AW.exit ?_ | refine AW.opsN rfl ?_ | refine AW.ret ?_); try (simp (decide := true) only [ax, tabs, s0, Int.reduceToNat, AgT_cons, AgT_nil, and_true, y0_0, z0_0, y0_1, z0_1, y0_2, z0_2, y0_14, z0_14, y0_15, z0_15, h1, h2]))
        | (refine AW.condT ?_ ?_; (focus (simp (decide := true) only [ax, tabs, s0, Int.reduceToNat, AgT_cons, AgT_nil, and_true, y0_0, z0_0, y0_1, z0_1, y0_2, z0_2, y0_14, z0_14, y0_15, z0_15, h1, h2]; done)))
        | (refine AW.condF ?_ ?_; (focus (simp (decide := true) only [ax, tabs, s0, Int.reduceToNat, AgT_cons, AgT_nil, and_true, y0_0, z0_0, y0_1, z0_1, y0_2, z0_2, y0_14, z0_14, y0_15, z0_15, h1, h2]; done))))
      first
        | refine leftJ (.inr rfl) hcl (Nat.le_refl _) (by simp (decide := true) only [ax, tabs, s0, Int.reduceToNat]; rfl) ?_ rfl ⟨rfl, rfl⟩
        | refine leftS (.inr rfl) hcl (Nat.le_refl _) (by simp (decide := true) only [ax, tabs, s0, Int.reduceToNat]; rfl) ?_ rfl ⟨rfl, rfl⟩
      simp (decide := true) only [ax, tabs, s0, Int.reduceToNat, pzVal, if_neg k0, if_pos k1, tm]
    have k1 := of_decide_eq_false h
    try (simp (decide := true) only [ax, tabs, s0, Int.reduceToNat])
    repeat (first
      | refine AW.seq ?_
      | refine AW.blockS ?_
      | ((first | refine AW.skip ?_ | refine AW.exit ?_ | refine AW.opsN rfl ?_ | refine AW.ret ?_); try (simp (decide := true) only [ax, tabs, s0, Int.reduceToNat]))
      | (refine AW.condT ?_ ?_; (focus (simp (decide := true) only [ax, tabs, s0, Int.reduceToNat]; done)))
      | (refine AW.condF ?_ ?_; (focus (simp (decide := true) only [ax, tabs, s0, Int.reduceToNat]; done))))
    repeat refine AW.seq ?_
    refine AW.cond (decide (kind = 2)) (by simp (decide := true) only [ax, tabs, s0, Int.reduceToNat, AgT_cons, AgT_nil, and_true, y0_0, z0_0, y0_1, z0_1, y0_2, z0_2, y0_14, z0_14, y0_15, z0_15, h1, h2]) (fun h => ?_) (fun h => ?_)
    · have k2 := of_decide_eq_true h
      try (simp (decide := true) only [ax, tabs, s0, Int.reduceToNat, AgT_cons, AgT_nil, and_true, y0_0, z0_0, y0_1, z0_1, y0_2, z0_2, y0_14, z0_14, y0_15, z0_15, h1, h2])
      repeat (first
        | refine AW.seq ?_
        | refine AW.blockS ?_
        | ((first | refine AW.skip ?_ | refine AW.exit ?_ | refine AW.opsN rfl ?_ | refine AW.ret ?_); try (simp (decide := true) only [ax, tabs, s0, Int.reduceToNat, AgT_cons, AgT_nil, and_true, y0_0, z0_0, y0_1, z0_1, y0_2, z0_2, y0_14, z0_14, y0_15, z0_15, h1, h2]))
        | (refine AW.condT ?_ ?_; (focus (simp (decide := true) only [ax, tabs, s0, Int.reduceToNat, AgT_cons, AgT_nil, and_true, y0_0, z0_0, y0_1, z0_1, y0_2, z0_2, y0_14, z0_14, y0_15, z0_15, h1, h2]; done)))
        | (refine AW.condF ?_ ?_; (focus (simp (decide := true) only [ax, tabs, s0, Int.reduceToNat, AgT_cons, AgT_nil, and_true, y0_0, z0_0, y0_1, z0_1, y0_2, z0_2, y0_14, z0_14, y0_15, z0_15, h1, h2]; done))))
      refine AC.det (prTime_ok ts _ h0 hl hts) ?_
      try (simp (decide := true) only [ax, tabs, s0, Int.reduceToNat])
      try (simp (decide := true) only [ax, tabs, s0, Int.reduceToNat])
      repeat (first
        | refine AW.seq ?_
        | refine AW.blockS ?_
        | ((first | refine AW.skip ?_ | refine AW.exit ?_ | refine AW.opsN rfl ?_ | refine AW.ret ?_); try (simp (decide := true) only [ax, tabs, s0, Int.reduceToNat]))
        | (refine AW.condT ?_ ?_; (focus (simp (decide := true) only [ax, tabs, s0, Int.reduceToNat]; done)))
        | (refine AW.condF ?_ ?_; (focus (simp (decide := true) only [ax, tabs, s0, Int.reduceToNat]; done))))
      first
        | refine leftJ (.inr rfl) hcl (Nat.le_refl _) (by simp (decide := true) only [ax, tabs, s0, Int.reduceToNat]; rfl) ?_ rfl ⟨rfl, rfl⟩
        | refine leftS (.inr rfl) hcl (Nat.le_refl _) (by simp (decide := true) only [ax, tabs, s0, Int.reduceToNat]; rfl) ?_ rfl ⟨rfl, rfl⟩
      simp (decide := true) only [ax, tabs, s0, Int.reduceToNat, pzVal, if_neg k0, if_neg k1, if_pos k2, tm]
    have k2 := of_decide_eq_false h
    try (simp (decide := true) only [ax, tabs, s0, Int.reduceToNat])
    repeat (first
      | refine AW.seq ?_
      | refine AW.blockS ?_
      | ((first | refine AW.skip ?_ | refine AW.exit ?_ | refine AW.opsN rfl ?_ | refine AW.ret ?_); try (simp (decide := true) only [ax, tabs, s0, Int.reduceToNat]))
      | (refine AW.condT ?_ ?_; (focus (simp (decide := true) only [ax, tabs, s0, Int.reduceToNat]; done)))
      | (refine AW.condF ?_ ?_; (focus (simp (decide := true) only [ax, tabs, s0, Int.reduceToNat]; done))))
    repeat refine AW.seq ?_
    refine AW.cond (decide (kind = 3)) (by simp (decide := true) only [ax, tabs, s0, Int.reduceToNat, AgT_cons, AgT_nil, and_true, y0_0, z0_0, y0_1, z0_1, y0_2, z0_2, y0_14, z0_14, y0_15, z0_15, h1, h2]) (fun h => ?_) (fun h => ?_)
    · have k3 := of_decide_eq_true h
      have ⟨t1, t2⟩ := crossF_trips ts true h0
      try (simp (decide := true) only [ax, tabs, s0, Int.reduceToNat, AgT_cons, AgT_nil, and_true, y0_0, z0_0, y0_1, z0_1, y0_2, z0_2, y0_14, z0_14, y0_15, z0_15, h1, h2])
      repeat (first
        | refine AW.seq ?_
        | refine AW.blockS ?_
        | ((first | refine AW.skip ?_ | refine AW.exit ?_ | refine AW.opsN rfl ?_ | refine AW.ret ?_); try (simp (decide := true) only [ax, tabs, s0, Int.reduceToNat, AgT_cons, AgT_nil, and_true, y0_0, z0_0, y0_1, z0_1, y0_2, z0_2, y0_14, z0_14, y0_15, z0_15, h1, h2]))
        | (refine AW.condT ?_ ?_; (focus (simp (decide := true) only [ax, tabs, s0, Int.reduceToNat, AgT_cons, AgT_nil, and_true, y0_0, z0_0, y0_1, z0_1, y0_2, z0_2, y0_14, z0_14, y0_15, z0_15, h1, h2]; done)))
        | (refine AW.condF ?_ ?_; (focus (simp (decide := true) only [ax, tabs, s0, Int.reduceToNat, AgT_cons, AgT_nil, and_true, y0_0, z0_0, y0_1, z0_1, y0_2, z0_2, y0_14, z0_14, y0_15, z0_15, h1, h2]; done))))
      refine AC.det (prTrips_ok' ts true _ h0 hl hts) ?_
      try (simp (decide := true) only [ax, tabs, s0, Int.reduceToNat, AgT_cons, AgT_nil, and_true, y0_0, z0_0, y0_1, z0_1, y0_2, z0_2, y0_14, z0_14, y0_15, z0_15, h1, h2])
      try (simp (decide := true) only [ax, tabs, s0, Int.reduceToNat, AgT_cons, AgT_nil, and_true, y0_0, z0_0, y0_1, z0_1, y0_2, z0_2, y0_14, z0_14, y0_15, z0_15, h1, h2])
      repeat (first
        | refine AW.seq ?_
        | refine AW.blockS ?_
        | ((first | refine AW.skip ?_ | refine AW.exit ?_ | refine AW.opsN rfl ?_ | refine AW.ret ?_); try (simp (decide := true) only [ax, tabs, s0, Int.reduceToNat, AgT_cons, AgT_nil, and_true, y0_0, z0_0, y0_1, z0_1, y0_2, z0_2, y0_14, z0_14, y0_15, z0_15, h1, h2]))
        | (refine AW.condT ?_ ?_; (focus (simp (decide := true) only [ax, tabs, s0, Int.reduceToNat, AgT_cons, AgT_nil, and_true, y0_0, z0_0, y0_1, z0_1, y0_2, z0_2, y0_14, z0_14, y0_15, z0_15, h1, h2]; done)))
        | (refine AW.condF ?_ ?_; (focus (simp (decide := true) only [ax, tabs, s0, Int.reduceToNat, AgT_cons, AgT_nil, and_true, y0_0, z0_0, y0_1, z0_1, y0_2, z0_2, y0_14, z0_14, y0_15, z0_15, h1, h2]; done))))
      refine AC.det (prSum_ok ts _ _ (by omega) (fun l hl => ⟨by have := (t1 l hl).1; omega, (t1 l hl).2⟩) hts) ?_
      try (simp (decide := true) only [ax, tabs, s0, Int.reduceToNat])
      try (simp (decide := true) only [ax, tabs, s0, Int.reduceToNat])
      repeat (first
        | refine AW.seq ?_
        | refine AW.blockS ?_
        | ((first | refine AW.skip ?_ | refine AW.exit ?_ | refine AW.opsN rfl ?_ | refine AW.ret ?_); try (simp (decide := true) only [ax, tabs, s0, Int.reduceToNat]))
        | (refine AW.condT ?_ ?_; (focus (simp (decide := true) only [ax, tabs, s0, Int.reduceToNat]; done)))
        | (refine AW.condF ?_ ?_; (focus (simp (decide := true) only [ax, tabs, s0, Int.reduceToNat]; done))))
      first
        | refine leftJ (.inr rfl) hcl (Nat.le_refl _) (by simp (decide := true) only [ax, tabs, s0, Int.reduceToNat]; rfl) ?_ rfl ⟨rfl, rfl⟩
        | refine leftS (.inr rfl) hcl (Nat.le_refl _) (by simp (decide := true) only [ax, tabs, s0, Int.reduceToNat]; rfl) ?_ rfl ⟨rfl, rfl⟩
      simp (decide := true) only [ax, tabs, s0, Int.reduceToNat, pzVal, if_neg k0, if_neg k1, if_neg k2, if_pos k3, tm, pairT]
    have k3 := of_decide_eq_false h
    try (simp (decide := true) only [ax, tabs, s0, Int.reduceToNat])
    repeat (first
      | refine AW.seq ?_
      | refine AW.blockS ?_
      | ((first | refine AW.skip ?_ | refine AW.exit ?_ | refine AW.opsN rfl ?_ | refine AW.ret ?_); try (simp (decide := true) only [ax, tabs, s0, Int.reduceToNat]))
      | (refine AW.condT ?_ ?_; (focus (simp (decide := true) only [ax, tabs, s0, Int.reduceToNat]; done)))
      | (refine AW.condF ?_ ?_; (focus (simp (decide := true) only [ax, tabs, s0, Int.reduceToNat]; done))))
    repeat refine AW.seq ?_
    refine AW.cond (decide (kind = 4)) (by simp (decide := true) only [ax, tabs, s0, Int.reduceToNat, AgT_cons, AgT_nil, and_true, y0_0, z0_0, y0_1, z0_1, y0_2, z0_2, y0_14, z0_14, y0_15, z0_15, h1, h2]) (fun h => ?_) (fun h => ?_)
    · have k4 := of_decide_eq_true h
      repeat refine AW.seq ?_
      refine AW.draw Emix [2, 2, 0, 0, 2, 0, 0] [0, 0, 3, 7, 0, 16, 48, 127, 255] (by kernel_rfl) ?_
      simp (decide := true) only [ax, axd, tabs, s0, Int.reduceToNat, y0_0, y0_1, y0_2, y0_14, y0_15, ints_length, ha.1, ha.2, ga, g0, m0, w1]
      try (simp (decide := true) only [ax, tabs, s0, Int.reduceToNat])
      repeat (first
        | refine AW.seq ?_
        | refine AW.blockS ?_
        | ((first | refine AW.skip ?_ | refine AW.exit ?_ | refine AW.opsN rfl ?_ | refine AW.ret ?_); try (simp (decide := true) only [ax, tabs, s0, Int.reduceToNat]))
        | (refine AW.condT ?_ ?_; (focus (simp (decide := true) only [ax, tabs, s0, Int.reduceToNat]; done)))
        | (refine AW.condF ?_ ?_; (focus (simp (decide := true) only [ax, tabs, s0, Int.reduceToNat]; done))))
      first
        | refine leftJ (.inr rfl) hcl (Nat.le_refl _) (by simp (decide := true) only [ax, tabs, s0, Int.reduceToNat]; rfl) ?_ rfl ⟨rfl, rfl⟩
        | refine leftS (.inr rfl) hcl (Nat.le_refl _) (by simp (decide := true) only [ax, tabs, s0, Int.reduceToNat]; rfl) ?_ rfl ⟨rfl, rfl⟩
      simp (decide := true) only [ax, tabs, s0, Int.reduceToNat, pzVal, if_neg k0, if_neg k1, if_neg k2, if_neg k3, if_pos k4, tm]
    have k4 := of_decide_eq_false h
    try (simp (decide := true) only [ax, tabs, s0, Int.reduceToNat, h2])
    repeat (first
      | refine AW.seq ?_
      | refine AW.blockS ?_
      | ((first | refine AW.skip ?_ | refine AW.exit ?_ | refine AW.opsN rfl ?_ | refine AW.ret ?_); try (simp (decide := true) only [ax, tabs, s0, Int.reduceToNat, h2]))
      | (refine AW.condT ?_ ?_; (focus (simp (decide := true) only [ax, tabs, s0, Int.reduceToNat, h2]; done)))
      | (refine AW.condF ?_ ?_; (focus (simp (decide := true) only [ax, tabs, s0, Int.reduceToNat, h2]; done))))
    first
      | refine leftJ (.inr rfl) hcl (Nat.le_refl _) (by simp (decide := true) only [ax, tabs, s0, Int.reduceToNat]; rfl) ?_ rfl ⟨rfl, rfl⟩
      | refine leftS (.inr rfl) hcl (Nat.le_refl _) (by simp (decide := true) only [ax, tabs, s0, Int.reduceToNat]; rfl) ?_ rfl ⟨rfl, rfl⟩
    simp (decide := true) only [ax, tabs, s0, Int.reduceToNat, pzVal, if_neg k0, if_neg k1, if_neg k2, if_neg k3, if_neg k4]
def pzFit (c : Clu) (ts : List Int) : Bool := if c.1 = 0 ∨ c.1 = 4 then decide (pzVal c.1 c.2.1 ts = c.2.2) else decide (pzVal c.1 0 ts = c.2.1)
theorem pzFits_ok (c : Clu) (ts : List Int) (M : List AO) (h0 : 1 ≤ ts.length) (hl : ts.length ≤ 12) (hts : ∀ t ∈ ts, 0 ≤ t ∧ t ≤ 1000000) (ha : c.1 = 0 ∨ c.1 = 4 → 0 ≤ c.2.1 ∧ c.2.1 < ts.length) :
    AC E 130 [cv c, .fz 1 (ints ts)] M (fun r M' => r = .bool (pzFit c ts) ∧ M' = M) := by
  refine AC.body (fn := Tryz.f130) Tryz.func130 rfl rfl (by simp [Tryz.f130]) fun hcl => ?_
  simp only [Tryz.f130]
  try (simp (decide := true) only [ax, tabs, s0, Int.reduceToNat, cv])
  repeat (first
    | refine AW.seq ?_
    | refine AW.blockS ?_
    | ((first | refine AW.skip ?_ | refine AW.exit ?_ | refine AW.opsN rfl ?_ | refine AW.ret ?_); try (simp (decide := true) only [ax, tabs, s0, Int.reduceToNat, cv]))
    | (refine AW.condT ?_ ?_; (focus (simp (decide := true) only [ax, tabs, s0, Int.reduceToNat, cv]; done)))
    | (refine AW.condF ?_ ?_; (focus (simp (decide := true) only [ax, tabs, s0, Int.reduceToNat, cv]; done))))
  cases h0' : decide (c.1 = 0)
  · have k0 := of_decide_eq_false h0'
    try (simp (decide := true) only [ax, tabs, s0, Int.reduceToNat])
    repeat (first
      | refine AW.seq ?_
      | refine AW.blockS ?_
      | ((first | refine AW.skip ?_ | refine AW.exit ?_ | refine AW.opsN rfl ?_ | refine AW.ret ?_); try (simp (decide := true) only [ax, tabs, s0, Int.reduceToNat]))
      | (refine AW.condT ?_ ?_; (focus (simp (decide := true) only [ax, tabs, s0, Int.reduceToNat]; done)))
      | (refine AW.condF ?_ ?_; (focus (simp (decide := true) only [ax, tabs, s0, Int.reduceToNat]; done))))
    repeat refine AW.seq ?_
    refine AW.cond (decide (c.1 = 4)) (by simp (decide := true) only [ax, tabs, s0, Int.reduceToNat]) (fun h => ?_) (fun h => ?_)
    · have k4 := of_decide_eq_true h
      repeat refine AW.seq ?_
      refine AW.draw Emix [0, 0, 0, 0, 2, 0, 0, 0] [0, 1, 0, 4, 0, 31, 0, 64, 255, 511] (by kernel_rfl) ?_
      simp (decide := true) only [ax, axd, tabs, s0, Int.reduceToNat]
      refine ⟨_, pzValue_ok c.1 c.2.1 ts _ h0 hl hts (ha (.inr k4)), ?_⟩
      simp (decide := true) only [ax, axd, tabs, s0, Int.reduceToNat]
      try (simp (decide := true) only [ax, tabs, s0, Int.reduceToNat])
      repeat (first
        | refine AW.seq ?_
        | refine AW.blockS ?_
        | ((first | refine AW.skip ?_ | refine AW.exit ?_ | refine AW.opsN rfl ?_ | refine AW.ret ?_); try (simp (decide := true) only [ax, tabs, s0, Int.reduceToNat]))
        | (refine AW.condT ?_ ?_; (focus (simp (decide := true) only [ax, tabs, s0, Int.reduceToNat]; done)))
        | (refine AW.condF ?_ ?_; (focus (simp (decide := true) only [ax, tabs, s0, Int.reduceToNat]; done))))
      first
        | refine leftJ (.inr rfl) hcl (Nat.le_refl _) (by simp (decide := true) only [ax, tabs, s0, Int.reduceToNat]; rfl) ?_ rfl ⟨rfl, rfl⟩
        | refine leftS (.inr rfl) hcl (Nat.le_refl _) (by simp (decide := true) only [ax, tabs, s0, Int.reduceToNat]; rfl) ?_ rfl ⟨rfl, rfl⟩
      simp (decide := true) only [ax, tabs, s0, Int.reduceToNat, pzFit, if_pos (show c.1 = 0 ∨ c.1 = 4 from .inr k4)]
    have k4 := of_decide_eq_false h
    have k5 : ¬ (c.1 = 0 ∨ c.1 = 4) := by omega
    try (simp (decide := true) only [ax, tabs, s0, Int.reduceToNat])
    repeat (first
      | refine AW.seq ?_
      | refine AW.blockS ?_
      | ((first | refine AW.skip ?_ | refine AW.exit ?_ | refine AW.opsN rfl ?_ | refine AW.ret ?_); try (simp (decide := true) only [ax, tabs, s0, Int.reduceToNat]))
      | (refine AW.condT ?_ ?_; (focus (simp (decide := true) only [ax, tabs, s0, Int.reduceToNat]; done)))
      | (refine AW.condF ?_ ?_; (focus (simp (decide := true) only [ax, tabs, s0, Int.reduceToNat]; done))))
    repeat refine AW.seq ?_
    refine AW.draw Emix [0, 0, 2, 0, 0, 0] [0, 1, 0, 7, 0, 16, 63, 127] (by kernel_rfl) ?_
    simp (decide := true) only [ax, axd, tabs, s0, Int.reduceToNat]
    refine ⟨_, pzValue_ok c.1 0 ts _ h0 hl hts ⟨by omega, by omega⟩, ?_⟩
    simp (decide := true) only [ax, axd, tabs, s0, Int.reduceToNat]
    try (simp (decide := true) only [ax, tabs, s0, Int.reduceToNat])
    repeat (first
      | refine AW.seq ?_
      | refine AW.blockS ?_
      | ((first | refine AW.skip ?_ | refine AW.exit ?_ | refine AW.opsN rfl ?_ | refine AW.ret ?_); try (simp (decide := true) only [ax, tabs, s0, Int.reduceToNat]))
      | (refine AW.condT ?_ ?_; (focus (simp (decide := true) only [ax, tabs, s0, Int.reduceToNat]; done)))
      | (refine AW.condF ?_ ?_; (focus (simp (decide := true) only [ax, tabs, s0, Int.reduceToNat]; done))))
    first
      | refine leftJ (.inr rfl) hcl (Nat.le_refl _) (by simp (decide := true) only [ax, tabs, s0, Int.reduceToNat]; rfl) ?_ rfl ⟨rfl, rfl⟩
      | refine leftS (.inr rfl) hcl (Nat.le_refl _) (by simp (decide := true) only [ax, tabs, s0, Int.reduceToNat]; rfl) ?_ rfl ⟨rfl, rfl⟩
    simp (decide := true) only [ax, tabs, s0, Int.reduceToNat, pzFit, if_neg k5]
  · have k0 := of_decide_eq_true h0'
    try (simp (decide := true) only [ax, tabs, s0, Int.reduceToNat])
    repeat (first
      | refine AW.seq ?_
      | refine AW.blockS ?_
      | ((first | refine AW.skip ?_ | refine AW.exit ?_ | refine AW.opsN rfl ?_ | refine AW.ret ?_); try (simp (decide := true) only [ax, tabs, s0, Int.reduceToNat]))
      | (refine AW.condT ?_ ?_; (focus (simp (decide := true) only [ax, tabs, s0, Int.reduceToNat]; done)))
      | (refine AW.condF ?_ ?_; (focus (simp (decide := true) only [ax, tabs, s0, Int.reduceToNat]; done))))
    repeat refine AW.seq ?_
    refine AW.draw Emix [0, 0, 0, 0, 2, 0, 0, 0] [0, 1, 0, 4, 0, 31, 0, 64, 255, 511] (by kernel_rfl) ?_
    simp (decide := true) only [ax, axd, tabs, s0, Int.reduceToNat]
    refine ⟨_, pzValue_ok c.1 c.2.1 ts _ h0 hl hts (ha (.inl k0)), ?_⟩
    simp (decide := true) only [ax, axd, tabs, s0, Int.reduceToNat]
    try (simp (decide := true) only [ax, tabs, s0, Int.reduceToNat])
    repeat (first
      | refine AW.seq ?_
      | refine AW.blockS ?_
      | ((first | refine AW.skip ?_ | refine AW.exit ?_ | refine AW.opsN rfl ?_ | refine AW.ret ?_); try (simp (decide := true) only [ax, tabs, s0, Int.reduceToNat]))
      | (refine AW.condT ?_ ?_; (focus (simp (decide := true) only [ax, tabs, s0, Int.reduceToNat]; done)))
      | (refine AW.condF ?_ ?_; (focus (simp (decide := true) only [ax, tabs, s0, Int.reduceToNat]; done))))
    first
      | refine leftJ (.inr rfl) hcl (Nat.le_refl _) (by simp (decide := true) only [ax, tabs, s0, Int.reduceToNat]; rfl) ?_ rfl ⟨rfl, rfl⟩
      | refine leftS (.inr rfl) hcl (Nat.le_refl _) (by simp (decide := true) only [ax, tabs, s0, Int.reduceToNat]; rfl) ?_ rfl ⟨rfl, rfl⟩
    simp (decide := true) only [ax, tabs, s0, Int.reduceToNat, pzFit, if_pos (show c.1 = 0 ∨ c.1 = 4 from .inl k0)]
theorem isClueF_A {p : Int} {c : Clu} (h : isClueF p c = true) : (1 ≤ p ∧ p ≤ 4) ∧ 0 ≤ c.2.1 ∧ (c.1 = 0 ∨ c.1 = 4 → c.2.1 < p) ∧ (¬ (c.1 = 0 ∨ c.1 = 4) → c.2.2 = 0) := by
  unfold isClueF at h
  split at h
  · rename_i hp
    simp only [inB, Bool.and_eq_true, decide_eq_true_eq] at hp
    refine ⟨hp, ?_⟩
    repeat' split at h
    all_goals first
      | (cases h; done)
      | (simp only [inB, Bool.and_eq_true, decide_eq_true_eq] at h; omega)
  · cases h
theorem pzFit_eq {p : Int} {c : Clu} {ts : List Int} (h : isClueF p c = true) (hp : p = ts.length) : pzFit c ts = fitsF c ts := by
  obtain ⟨hp2, h1, h2, h3⟩ := isClueF_A h
  have hm : (c.1 = 0 ∨ c.1 = 4) → mn c.2.1 ((ts.length : Int) - 1) = c.2.1 := fun h => by have := h2 h; unfold mn; split <;> omega
  unfold pzFit fitsF sameC
  by_cases h04 : c.1 = 0 ∨ c.1 = 4
  · rw [if_pos h04, hm h04]
    rcases h04 with h | h <;> simp [pzVal, toldF, h]
  · rw [if_neg h04]
    have hb := h3 h04
    have k0 : ¬ c.1 = 0 := fun h => h04 (.inl h)
    have k4 : ¬ c.1 = 4 := fun h => h04 (.inr h)
    unfold toldF pzVal
    rw [if_neg k0, if_neg k0, if_neg k4, if_neg k4]
    repeat' split
    all_goals simp_all
end Go.Ax
