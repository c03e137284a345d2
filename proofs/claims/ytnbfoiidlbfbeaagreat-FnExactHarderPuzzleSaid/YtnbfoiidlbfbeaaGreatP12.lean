/- The reference's trips. -/
import Derived.Test.YtnbfoiidlbfbeaaGreatP11
set_option linter.unusedVariables false
set_option linter.unusedSimpArgs false
namespace Go.Ax
open Go.Proofs

theorem srt2 (a b : Int) : srt [a, b] = two a b := by
  unfold srt two
  simp only [List.length_cons, List.length_nil, Nat.zero_add, Nat.add_sub_cancel, insTo, insJ, List.getD_cons_succ, List.getD_cons_zero, decide_eq_true_eq, sw, List.set_cons_succ, List.set_cons_zero, Nat.sub_self]
theorem srt1 (a : Int) : srt [a] = [a] := rfl
theorem prPair_fz (a b : Int) (M : List AO) : AC E 82 [iv a, iv b] M (fun r M' => r = fzi (srt [a, b]) ∧ M' = M) :=
  .freeze ((prPair_row a b M).mono fun r M' h => by
    obtain ⟨rfl, rfl⟩ := h
    have hl : (two a b).length = 2 := by unfold two; split <;> rfl
    refine ⟨_, _, rfl, ?_, rfl, rfl⟩
    have := tell_ints (M' := M ++ [.mem (ints (two a b))]) (n := M.length) (o := M.length) (xs := two a b) (by simp) (Nat.le_refl _)
    rw [hl] at this
    rw [srt2]; exact this)
/-- A list that grows: nil, or a row of the call's own. -/
def Grow (k n0 : Nat) (xs : List AV) (a : AV) (M' : List AO) : Prop := (xs = [] ∧ a = .nils) ∨ ∃ o, a = .sl k o 0 xs.length (xs.length * k) ∧ n0 ≤ o ∧ M'[o]? = some (.mem (flat xs))
theorem flat_fzi (L : List (List Int)) : flat (L.map fzi) = L.map fzi := by
  induction L with
  | nil => rfl
  | cons x xs ih => show [fzi x] ++ flat (xs.map fzi) = _; rw [ih]; rfl
theorem Els.fzi (n : Nat) (L : List (List Int)) : Els 1 n (L.map fzi) := ⟨fun x hx => by
    simp only [List.mem_map] at hx
    obtain ⟨l, _, rfl⟩ := hx; rfl, fun i b hb => by
    rw [flat_fzi, List.getElem?_map] at hb
    obtain ⟨l, _, rfl⟩ := Option.map_eq_some_iff.1 hb
    exact .fz _ _ (Els.ints _ _).cl⟩
theorem Grow.tell {k n : Nat} {xs : List AV} {a : AV} {M' : List AO} (h : Grow k n xs a M') (he : Els k n xs) : Tell M' n a (.fz k xs) := by
  rcases h with ⟨rfl, rfl⟩ | ⟨o, rfl, h1, h2⟩
  · exact .nil k
  · exact tell_at h2 h1 he
theorem set_keep {M J : List AO} {o : Nat} {x : AO} (h : M.length ≤ o) : M <+: (M ++ J).set o x := by
  rw [List.set_append_right _ _ h]; exact List.prefix_append _ _
def TrInv (ts od : List Int) (esc : Bool) (M : List AO) (d : Nat) (T : Tm) (M' : List AO) (fr : Prop) : Prop :=
  ∃ (f lf : Nat) (s : CrS), lf = d ∧ lf ≤ f ∧ 2 ≤ lf ∧ lf ≤ ts.length ∧ rounds ts od esc f lf s = rounds ts od esc ts.length ts.length ([], ByteArray.empty, false) ∧ s.1.length + 4 * lf ≤ 4 * ts.length ∧ s.2.1.size + lf ≤ ts.length ∧
      T 8 = iv lf ∧ T 12 = .str s.2.1 ∧ T 13 = .bool s.2.2 ∧ Grow 1 M.length (s.1.map fzi) (T 11) M' ∧ fr ∧ M <+: M'
theorem tell_row' {M' : List AO} {n o len : Nat} {L : List (List Int)} (ho : M'[o]? = some (.mem (L.map fzi))) (hn : n ≤ o) (hl : len = L.length) : Tell M' n (.sl 1 o 0 len len) (.fz 1 (L.map fzi)) := by
  have := tell_at (M' := M') (n := n) (k := 1) (o := o) (xs := L.map fzi) (by rw [flat_fzi]; exact ho) hn (.fzi n L)
  rw [List.length_map, Nat.mul_one, ← hl] at this; exact this
theorem room {n : Nat} (h : n ≤ 4000000) : n * 24 ≤ 140737488355328 := by omega
inductive TellL (M : List AO) (n : Nat) : List AV → List AV → Prop
  | nil : TellL M n [] []
  | cons {a b : AV} {xs ys : List AV} (h : Tell M n a b) (t : TellL M n xs ys) : TellL M n (a :: xs) (b :: ys)
theorem TellL.len {M : List AO} {n : Nat} {xs ys : List AV} (h : TellL M n xs ys) : xs.length = ys.length := by
  induction h with
  | nil => rfl
  | cons h t ih => simp [ih]
theorem TellL.at {M : List AO} {n : Nat} {xs ys : List AV} (h : TellL M n xs ys) : ∀ (i : Nat) (b : AV), ys[i]? = some b → xs[i]? = some (xs.getD i .any) ∧ Tell M n (xs.getD i .any) b := by
  induction h with
  | nil => intro i b hb; simp at hb
  | cons h t ih =>
    intro i b hb
    cases i with
    | zero => simp at hb; subst hb; exact ⟨rfl, h⟩
    | succ i => simpa using ih i b (by simpa using hb)
theorem tell_tup {M : List AO} {n : Nat} {xs ys : List AV} (h : TellL M n xs ys) : Tell M n (.tup xs) (.tup ys) :=
  .tup xs ys h.len (fun i => xs.getD i .any) (fun i b hb => (h.at i b hb).1) (fun i b hb => (h.at i b hb).2)
theorem tell_agg {M : List AO} {n : Nat} {xs ys : List AV} (h : TellL M n xs ys) : Tell M n (.agg xs) (.agg ys) :=
  .agg xs ys h.len (fun i => xs.getD i .any) (fun i b hb => (h.at i b hb).1) (fun i b hb => (h.at i b hb).2)
set_option maxHeartbeats 2000000 in
theorem prTrips_ok (ts : List Int) (esc : Bool) (M : List AO) (h0 : 1 ≤ ts.length) (hl : ts.length ≤ 12) (hts : ∀ t ∈ ts, 0 ≤ t ∧ t ≤ 1000000) (hord : ordF ts ts.length = paceL ts) : AC E 41 [.fz 1 (ints ts), .bool esc] M
    (fun r M' => r = .tup [.fz 1 ((crossF ts esc).1.map fzi), .str (crossF ts esc).2.1, .bool (crossF ts esc).2.2] ∧ M' = M) := by
  refine AC.body (fn := Tryz.f41) Tryz.func41 rfl rfl (by simp [Tryz.f41]) fun hcl => ?_
  simp only [Tryz.f41]
  try (simp (decide := true) only [ax, tabs, s0, Int.reduceToNat])
  repeat (first
    | refine AW.seq ?_
    | refine AW.blockS ?_
    | ((first | refine AW.skip ?_ | refine AW.exit ?_ | refine AW.opsN rfl ?_ | refine AW.ret ?_); try (simp (decide := true) only [ax, tabs, s0, Int.reduceToNat]))
    | (refine AW.condT ?_ ?_; (focus (simp (decide := true) only [ax, tabs, s0, Int.reduceToNat]; done)))
    | (refine AW.condF ?_ ?_; (focus (simp (decide := true) only [ax, tabs, s0, Int.reduceToNat]; done))))
  refine AC.det (prOrder_ok ts _ (by omega)) ?_
  rw [hord]
  have hol : (paceL ts).length = ts.length := paceL_length ts
  have hoa := paceL_all ts
  have hcr := crossF_eq ts esc
  have hon : ∀ i, i < ts.length → (ints (paceL ts)).getD i .any = iv (gi (paceL ts) i) := fun i hi => ints_get (by omega)
  have hob : ∀ i, i < ts.length → 0 ≤ gi (paceL ts) i ∧ gi (paceL ts) i < ts.length := fun i hi => getD_all hoa (by omega)
  have htm : ∀ k : Int, 0 ≤ k → k < ts.length → (ints ts).getD k.toNat .any = iv (tm ts k) := fun k h1 h2 => ints_get (by omega)
  have htb : ∀ k : Int, 0 ≤ k → k < ts.length → 0 ≤ tm ts k ∧ tm ts k ≤ 1000000 := fun k h1 h2 => getD_all hts (by omega)
  generalize hod : paceL ts = od at *
  try (simp (decide := true) only [ax, tabs, s0, Int.reduceToNat, ints_length, hol])
  repeat (first
    | refine AW.seq ?_
    | refine AW.blockS ?_
    | ((first | refine AW.skip ?_ | refine AW.exit ?_ | refine AW.opsN rfl ?_ | refine AW.ret ?_); try (simp (decide := true) only [ax, tabs, s0, Int.reduceToNat, ints_length, hol]))
    | (refine AW.condT ?_ ?_; (focus (simp (decide := true) only [ax, tabs, s0, Int.reduceToNat, ints_length, hol]; done)))
    | (refine AW.condF ?_ ?_; (focus (simp (decide := true) only [ax, tabs, s0, Int.reduceToNat, ints_length, hol]; done))))
  repeat refine AW.seq ?_
  refine AW.cond (decide ((ts.length : Int) = 1)) (by simp (decide := true) only [ax, tabs, s0, Int.reduceToNat, ints_length, hol]) (fun h => ?_) (fun h => ?_)
  · have h1 : ts.length = 1 := by have := of_decide_eq_true h; omega
    have g0 : gi od 0 = 0 := by have := hob 0 (by omega); omega
    have hc : crossF ts esc = ([[0]], ByteArray.empty, false) := by
      rw [hcr 1 ([], ByteArray.empty, false) (by rw [hol, h1]; rfl)]
      simp [last, srt1, g0]
    rw [hc]
    repeat refine AW.seq ?_
    refine AW.lits [2, 2] ?_
    simp (decide := true) only [ax, axd, tabs, s0, Int.reduceToNat]
    try (simp (decide := true) only [ax, tabs, s0, Int.reduceToNat])
    repeat (first
      | refine AW.seq ?_
      | refine AW.blockS ?_
      | ((first | refine AW.skip ?_ | refine AW.exit ?_ | refine AW.opsN rfl ?_ | refine AW.ret ?_); try (simp (decide := true) only [ax, tabs, s0, Int.reduceToNat]))
      | (refine AW.condT ?_ ?_; (focus (simp (decide := true) only [ax, tabs, s0, Int.reduceToNat]; done)))
      | (refine AW.condF ?_ ?_; (focus (simp (decide := true) only [ax, tabs, s0, Int.reduceToNat]; done))))
    refine left0 (.inr rfl) hcl (Nat.le_refl _) (by simp (decide := true) only [ax, tabs, s0, Int.reduceToNat]; rfl) ?_ ⟨rfl, rfl⟩
    try (simp (decide := true) only [ax, tabs, s0, Int.reduceToNat])
    refine .same _ (.tup _ fun i b hi => ?_)
    match i, hi with
    | 0, hi => simp at hi; subst hi; exact .fz _ _ (Els.fzi _ [[0]]).cl
    | 1, hi => simp at hi; subst hi; exact .str _
    | 2, hi => simp at hi; subst hi; exact .bool _
  have hne : ts.length ≠ 1 := by have := of_decide_eq_false h; omega
  have i0 := hon 0 (by omega)
  have i1 := hon 1 (by omega)
  have l0 : 0 < ts.length := by omega
  have l1 : 1 < ts.length := by omega
  have m0 : (0 : Int) < ts.length := by omega
  have m1 : (1 : Int) < ts.length := by omega
  try (simp (decide := true) only [ax, tabs, s0, Int.reduceToNat])
  repeat (first
    | refine AW.seq ?_
    | refine AW.blockS ?_
    | ((first | refine AW.skip ?_ | refine AW.exit ?_ | refine AW.opsN rfl ?_ | refine AW.ret ?_); try (simp (decide := true) only [ax, tabs, s0, Int.reduceToNat]))
    | (refine AW.condT ?_ ?_; (focus (simp (decide := true) only [ax, tabs, s0, Int.reduceToNat]; done)))
    | (refine AW.condF ?_ ?_; (focus (simp (decide := true) only [ax, tabs, s0, Int.reduceToNat]; done))))
  repeat refine AW.seq ?_
  refine AW.draw Emix [2, 0, 0, 2, 0, 0, 2] [0, 1, 3, 0, 8, 24, 7, 127] (by kernel_rfl) ?_
  simp (decide := true) only [ax, axd, tabs, s0, Int.reduceToNat, ints_length, hol, i0, i1, l0, l1, m0, m1]
  try (simp (decide := true) only [ax, tabs, s0, Int.reduceToNat])
  repeat (first
    | refine AW.seq ?_
    | refine AW.blockS ?_
    | ((first | refine AW.skip ?_ | refine AW.exit ?_ | refine AW.opsN rfl ?_ | refine AW.ret ?_); try (simp (decide := true) only [ax, tabs, s0, Int.reduceToNat]))
    | (refine AW.condT ?_ ?_; (focus (simp (decide := true) only [ax, tabs, s0, Int.reduceToNat]; done)))
    | (refine AW.condF ?_ ?_; (focus (simp (decide := true) only [ax, tabs, s0, Int.reduceToNat]; done))))
  refine AW.gen fun T0_ hT0_ => ?_
  have z0_0 := congrFun hT0_ 0
  have z0_1 := congrFun hT0_ 1
  have z0_7 := congrFun hT0_ 7
  have z0_9 := congrFun hT0_ 9
  have z0_10 := congrFun hT0_ 10
  have z0_8 := congrFun hT0_ 8
  have z0_11 := congrFun hT0_ 11
  have z0_12 := congrFun hT0_ 12
  have z0_13 := congrFun hT0_ 13
  try (simp (decide := true) only [ax, tabs, s0, Int.reduceToNat] at z0_0 z0_1 z0_7 z0_9 z0_10 z0_8 z0_11 z0_12 z0_13)
  clear hT0_
  refine AW.blockP (fun T M' => ∃ (lf : Nat) (s : CrS), crossF ts esc = last od lf s ∧ 2 ≤ lf ∧ lf ≤ 3 ∧ lf ≤ ts.length ∧ s.1.length ≤ 100 ∧ T 8 = iv lf ∧ T 12 = .str s.2.1 ∧ T 13 = .bool s.2.2 ∧ Grow 1 M.length (s.1.map fzi) (T 11) M' ∧ AgT [0, 1, 7, 9, 10] T T0_ ∧ M <+: M')
    (AW.loop (fun d T M' => TrInv ts od esc M d T M' (AgT [0, 1, 7, 9, 10] T T0_)) ts.length
      ⟨ts.length, ts.length, ([], ByteArray.empty, false), rfl, Nat.le_refl _, by omega, Nat.le_refl _, rfl, by simp, by simp, z0_8, z0_12, z0_13, .inl ⟨rfl, z0_11⟩, AgT_refl _ _, List.prefix_rfl⟩ ?_) ?_
  · rintro d T M' ⟨f, lf, s, rfl, hf, hl1, hl2, hr, hs1, hs2, t8, t12, t13, hg, fr, J, rfl⟩
    have y0_0 := (fr 0 (by decide)).trans z0_0
    have y0_1 := (fr 1 (by decide)).trans z0_1
    have y0_7 := (fr 7 (by decide)).trans z0_7
    have y0_9 := (fr 9 (by decide)).trans z0_9
    have y0_10 := (fr 10 (by decide)).trans z0_10
    try (simp (decide := true) only [ax, tabs, s0, Int.reduceToNat, t8])
    repeat (first
      | refine AW.seq ?_
      | refine AW.blockS ?_
      | ((first | refine AW.skip ?_ | refine AW.exit ?_ | refine AW.opsN rfl ?_ | refine AW.ret ?_); try (simp (decide := true) only [ax, tabs, s0, Int.reduceToNat, t8]))
      | (refine AW.condT ?_ ?_; (focus (simp (decide := true) only [ax, tabs, s0, Int.reduceToNat, t8]; done)))
      | (refine AW.condF ?_ ?_; (focus (simp (decide := true) only [ax, tabs, s0, Int.reduceToNat, t8]; done))))
    repeat refine AW.seq ?_
    refine AW.cond (decide ((lf : Int) > 3)) (by simp (decide := true) only [ax, tabs, s0, Int.reduceToNat, t8]) (fun h => ?_) (fun h => ?_)
    · have h3 : 3 < lf := by have := of_decide_eq_true h; omega
      try (simp (decide := true) only [ax, tabs, s0, Int.reduceToNat])
      repeat (first
        | refine AW.seq ?_
        | refine AW.blockS ?_
        | ((first | refine AW.skip ?_ | refine AW.exit ?_ | refine AW.opsN rfl ?_ | refine AW.ret ?_); try (simp (decide := true) only [ax, tabs, s0, Int.reduceToNat]))
        | (refine AW.condT ?_ ?_; (focus (simp (decide := true) only [ax, tabs, s0, Int.reduceToNat]; done)))
        | (refine AW.condF ?_ ?_; (focus (simp (decide := true) only [ax, tabs, s0, Int.reduceToNat]; done))))
      have w1 : IntKind.i64.wrap ((lf : Int) - 2) = ((lf - 2 : Nat) : Int) := by rw [wrap_in (by omega) (by omega)]; omega
      have w2 : IntKind.i64.wrap ((lf : Int) - 1) = ((lf - 1 : Nat) : Int) := by rw [wrap_in (by omega) (by omega)]; omega
      have i2 := hon (lf - 2) (by omega)
      have i3 := hon (lf - 1) (by omega)
      have l2 : lf - 2 < ts.length := by omega
      have l3 : lf - 1 < ts.length := by omega
      repeat refine AW.seq ?_
      refine AW.draw Emix [2, 2, 2, 0, 0, 2, 2, 2, 0, 0, 2] [0, 0, 2, 7, 15, 0, 0, 64, 224, 480, 31, 2047] (by kernel_rfl) ?_
      simp (decide := true) only [ax, axd, tabs, s0, Int.reduceToNat, y0_0, y0_1, y0_7, y0_9, y0_10, t8, t12, t13, ints_length, hol, w1, w2, i2, i3, l2, l3]
      obtain ⟨a1, a2⟩ := hob 0 l0
      obtain ⟨b1, b2⟩ := hob 1 l1
      obtain ⟨y1, y2⟩ := hob (lf - 2) l2
      have ta := htm _ a1 a2
      have tb := htm _ b1 b2
      have ty := htm _ y1 y2
      obtain ⟨a3, a4⟩ := htb _ a1 a2
      obtain ⟨b3, b4⟩ := htb _ b1 b2
      obtain ⟨y3, y4⟩ := htb _ y1 y2
      have w3 : IntKind.i64.wrap (2 * tm ts (gi od 1)) = 2 * tm ts (gi od 1) := wrap_in (by omega) (by omega)
      have w4 : IntKind.i64.wrap (tm ts (gi od 0) + tm ts (gi od (lf - 2))) = tm ts (gi od 0) + tm ts (gi od (lf - 2)) := wrap_in (by omega) (by omega)
      repeat refine AW.seq ?_
      refine AW.draw Emix [2, 2, 0, 0, 2, 2, 2, 0, 0, 2, 2, 0, 0, 2, 2] [0, 0, 3, 7, 15, 0, 0, 96, 224, 0, 0, 1536, 3584, 8160, 31, 32767] (by kernel_rfl) ?_
      simp (decide := true) only [ax, axd, tabs, s0, Int.reduceToNat, y0_0, y0_1, y0_7, y0_9, y0_10, t8, t12, t13, ints_length, a1, a2, b1, b2, y1, y2, ta, tb, ty, w3, w4]
      obtain ⟨f, rfl⟩ : ∃ f', f = f' + 1 := ⟨f - 1, by omega⟩
      simp only [rounds, if_pos h3] at hr
      generalize he3 : (s.2.2 || decide (2 * tm ts (gi od 1) = tm ts (gi od 0) + tm ts (gi od (lf - 2)))) = e3
      cases hev : s.2.2
      all_goals
        try (simp (decide := true) only [ax, tabs, s0, Int.reduceToNat, y0_0, y0_1, y0_7, y0_9, y0_10, t8, t12, t13, hev])
        repeat (first
          | refine AW.seq ?_
          | refine AW.blockS ?_
          | ((first | refine AW.skip ?_ | refine AW.exit ?_ | refine AW.opsN rfl ?_ | refine AW.ret ?_); try (simp (decide := true) only [ax, tabs, s0, Int.reduceToNat, y0_0, y0_1, y0_7, y0_9, y0_10, t8, t12, t13, hev]))
          | (refine AW.condT ?_ ?_; (focus (simp (decide := true) only [ax, tabs, s0, Int.reduceToNat, y0_0, y0_1, y0_7, y0_9, y0_10, t8, t12, t13, hev]; done)))
          | (refine AW.condF ?_ ?_; (focus (simp (decide := true) only [ax, tabs, s0, Int.reduceToNat, y0_0, y0_1, y0_7, y0_9, y0_10, t8, t12, t13, hev]; done))))
        cases h5 : decide (2 * tm ts (gi od 1) < tm ts (gi od 0) + tm ts (gi od (lf - 2)))
        · have hround : round1 ts od esc lf s = (s.1 ++ [srt [gi od 0, gi od (lf - 1)]] ++ [srt [gi od 0]] ++ [srt [gi od 0, gi od (lf - 2)]] ++ [srt [gi od 0]], s.2.1 ++ sE, e3) := by
            rw [← he3]; simp only [round1]; rw [if_neg (by rw [h5]; simp)]
          try (simp (decide := true) only [ax, tabs, s0, Int.reduceToNat, y0_0, y0_1, y0_7, y0_9, y0_10])
          repeat (first
            | refine AW.seq ?_
            | refine AW.blockS ?_
            | ((first | refine AW.skip ?_ | refine AW.exit ?_ | refine AW.opsN rfl ?_ | refine AW.ret ?_); try (simp (decide := true) only [ax, tabs, s0, Int.reduceToNat, y0_0, y0_1, y0_7, y0_9, y0_10]))
            | (refine AW.condT ?_ ?_; (focus (simp (decide := true) only [ax, tabs, s0, Int.reduceToNat, y0_0, y0_1, y0_7, y0_9, y0_10]; done)))
            | (refine AW.condF ?_ ?_; (focus (simp (decide := true) only [ax, tabs, s0, Int.reduceToNat, y0_0, y0_1, y0_7, y0_9, y0_10]; done))))
          repeat refine AW.seq ?_
          refine AW.lits [2, 2, 2, 0, 2, 2, 2, 2, 0, 2, 2, 2] ?_
          simp (decide := true) only [ax, axd, tabs, s0, Int.reduceToNat, y0_0, y0_1, y0_7, y0_9, y0_10]
          refine ⟨fzi _, prPair_fz _ _ _, fzi _, prPair_fz _ _ _, ?_⟩
          simp (decide := true) only [ax, axd, tabs, s0, Int.reduceToNat, fzi, y0_0, y0_1, y0_7, y0_9, y0_10]
          have zz : (sE).size = 1 := rfl
          have z3 : s.2.1.size + 1 ≤ 9223372036854775807 := by omega
          have z4 : (s.1.length + (1 + (1 + (1 + 1)))) * 24 ≤ 140737488355328 := by omega
          have fin : ∀ (T : Tm) (M' : List AO), T 8 = iv (lf - 2 : Nat) → T 12 = .str (s.2.1 ++ sE) → T 13 = .bool e3 → Grow 1 M.length ((round1 ts od esc lf s).1.map fzi) (T 11) M' → AgT [0, 1, 7, 9, 10] T T0_ → M <+: M' → ∃ d', d' < lf ∧ TrInv ts od esc M d' T M' (AgT [0, 1, 7, 9, 10] T T0_) :=
            fun T M' k8 k12 k13 kg kf kM => ⟨lf - 2, by omega, f, lf - 2, _, rfl, by omega, by omega, by omega, hr, by rw [hround]; simp; omega, by rw [hround]; simp [ByteArray.size_append, zz]; omega, k8, by rw [hround]; exact k12, by rw [hround]; exact k13, kg, kf, kM⟩
          rcases hg with ⟨hL, ha⟩ | ⟨ot, ha, hot, hrow⟩
          · simp (decide := true) only [ax, axd, tabs, s0, Int.reduceToNat, ha]
            try (simp (decide := true) only [ax, tabs, s0, Int.reduceToNat, y0_0, y0_1, y0_7, y0_9, y0_10, t8, t12, t13, w1])
            repeat (first
              | refine AW.seq ?_
              | refine AW.blockS ?_
              | ((first | refine AW.skip ?_ | refine AW.exit ?_ | refine AW.opsN rfl ?_ | refine AW.ret ?_); try (simp (decide := true) only [ax, tabs, s0, Int.reduceToNat, y0_0, y0_1, y0_7, y0_9, y0_10, t8, t12, t13, w1]))
              | (refine AW.condT ?_ ?_; (focus (simp (decide := true) only [ax, tabs, s0, Int.reduceToNat, y0_0, y0_1, y0_7, y0_9, y0_10, t8, t12, t13, w1]; done)))
              | (refine AW.condF ?_ ?_; (focus (simp (decide := true) only [ax, tabs, s0, Int.reduceToNat, y0_0, y0_1, y0_7, y0_9, y0_10, t8, t12, t13, w1]; done))))
            refine ⟨z3, ?_⟩
            try (simp (decide := true) only [ax, tabs, s0, Int.reduceToNat, y0_0, y0_1, y0_7, y0_9, y0_10, t8, t12, t13, w1])
            repeat (first
              | refine AW.seq ?_
              | refine AW.blockS ?_
              | ((first | refine AW.skip ?_ | refine AW.exit ?_ | refine AW.opsN rfl ?_ | refine AW.ret ?_); try (simp (decide := true) only [ax, tabs, s0, Int.reduceToNat, y0_0, y0_1, y0_7, y0_9, y0_10, t8, t12, t13, w1]))
              | (refine AW.condT ?_ ?_; (focus (simp (decide := true) only [ax, tabs, s0, Int.reduceToNat, y0_0, y0_1, y0_7, y0_9, y0_10, t8, t12, t13, w1]; done)))
              | (refine AW.condF ?_ ?_; (focus (simp (decide := true) only [ax, tabs, s0, Int.reduceToNat, y0_0, y0_1, y0_7, y0_9, y0_10, t8, t12, t13, w1]; done))))
            refine fin _ _ (by simp (decide := true) only [ax, tabs, s0, Int.reduceToNat, w1]) (by simp (decide := true) only [ax, tabs, s0, Int.reduceToNat]; rfl) (by rw [← he3, hev]; simp (decide := true) only [ax, tabs, s0, Int.reduceToNat]) ?_ ?_ ?_
            · rw [hround]; refine .inr ⟨M.length + J.length, ?_, by omega, ?_⟩
              · try (simp (decide := true) only [ax, tabs, s0, Int.reduceToNat])
                simp [hL]
              · rw [flat_fzi]; simp [hL]; exact ⟨rfl, rfl, rfl, rfl⟩
            · try (simp (decide := true) only [ax, tabs, s0, Int.reduceToNat, AgT_cons, AgT_nil, and_true, y0_0, y0_1, y0_7, y0_9, y0_10, z0_0, z0_1, z0_7, z0_9, z0_10, z0_8, z0_11, z0_12, z0_13])
            · simp
          · simp (decide := true) only [ax, axd, tabs, s0, Int.reduceToNat, ha, hrow, flat_fzi, List.length_map, z4]
            try (simp (decide := true) only [ax, tabs, s0, Int.reduceToNat, y0_0, y0_1, y0_7, y0_9, y0_10, t8, t12, t13, w1])
            repeat (first
              | refine AW.seq ?_
              | refine AW.blockS ?_
              | ((first | refine AW.skip ?_ | refine AW.exit ?_ | refine AW.opsN rfl ?_ | refine AW.ret ?_); try (simp (decide := true) only [ax, tabs, s0, Int.reduceToNat, y0_0, y0_1, y0_7, y0_9, y0_10, t8, t12, t13, w1]))
              | (refine AW.condT ?_ ?_; (focus (simp (decide := true) only [ax, tabs, s0, Int.reduceToNat, y0_0, y0_1, y0_7, y0_9, y0_10, t8, t12, t13, w1]; done)))
              | (refine AW.condF ?_ ?_; (focus (simp (decide := true) only [ax, tabs, s0, Int.reduceToNat, y0_0, y0_1, y0_7, y0_9, y0_10, t8, t12, t13, w1]; done))))
            refine ⟨z3, ?_⟩
            try (simp (decide := true) only [ax, tabs, s0, Int.reduceToNat, y0_0, y0_1, y0_7, y0_9, y0_10, t8, t12, t13, w1])
            repeat (first
              | refine AW.seq ?_
              | refine AW.blockS ?_
              | ((first | refine AW.skip ?_ | refine AW.exit ?_ | refine AW.opsN rfl ?_ | refine AW.ret ?_); try (simp (decide := true) only [ax, tabs, s0, Int.reduceToNat, y0_0, y0_1, y0_7, y0_9, y0_10, t8, t12, t13, w1]))
              | (refine AW.condT ?_ ?_; (focus (simp (decide := true) only [ax, tabs, s0, Int.reduceToNat, y0_0, y0_1, y0_7, y0_9, y0_10, t8, t12, t13, w1]; done)))
              | (refine AW.condF ?_ ?_; (focus (simp (decide := true) only [ax, tabs, s0, Int.reduceToNat, y0_0, y0_1, y0_7, y0_9, y0_10, t8, t12, t13, w1]; done))))
            refine fin _ _ (by simp (decide := true) only [ax, tabs, s0, Int.reduceToNat, w1]) (by simp (decide := true) only [ax, tabs, s0, Int.reduceToNat]; rfl) (by rw [← he3, hev]; simp (decide := true) only [ax, tabs, s0, Int.reduceToNat]) ?_ ?_ ?_
            · rw [hround]; refine .inr ⟨ot, ?_, hot, ?_⟩
              · try (simp (decide := true) only [ax, tabs, s0, Int.reduceToNat])
                try simp
              · rw [flat_fzi, List.getElem?_set_self (lt_of_obj hrow)]; simp; exact ⟨rfl, rfl, rfl, rfl⟩
            · try (simp (decide := true) only [ax, tabs, s0, Int.reduceToNat, AgT_cons, AgT_nil, and_true, y0_0, y0_1, y0_7, y0_9, y0_10, z0_0, z0_1, z0_7, z0_9, z0_10, z0_8, z0_11, z0_12, z0_13])
            · exact set_keep hot
        · cases esc
          · have hround : round1 ts od false lf s = (s.1 ++ [srt [gi od 0, gi od 1]] ++ [srt [gi od 0]] ++ [srt [gi od (lf - 2), gi od (lf - 1)]] ++ [srt [gi od 1]], s.2.1 ++ sF, e3) := by
              rw [← he3]; simp only [round1]; rw [if_pos (by rw [h5]; simp)]
            try (simp (decide := true) only [ax, tabs, s0, Int.reduceToNat, y0_0, y0_1, y0_7, y0_9, y0_10])
            repeat (first
              | refine AW.seq ?_
              | refine AW.blockS ?_
              | ((first | refine AW.skip ?_ | refine AW.exit ?_ | refine AW.opsN rfl ?_ | refine AW.ret ?_); try (simp (decide := true) only [ax, tabs, s0, Int.reduceToNat, y0_0, y0_1, y0_7, y0_9, y0_10]))
              | (refine AW.condT ?_ ?_; (focus (simp (decide := true) only [ax, tabs, s0, Int.reduceToNat, y0_0, y0_1, y0_7, y0_9, y0_10]; done)))
              | (refine AW.condF ?_ ?_; (focus (simp (decide := true) only [ax, tabs, s0, Int.reduceToNat, y0_0, y0_1, y0_7, y0_9, y0_10]; done))))
            repeat refine AW.seq ?_
            refine AW.lits [2, 2, 2, 0, 2, 2, 2, 2, 0, 2, 2, 2] ?_
            simp (decide := true) only [ax, axd, tabs, s0, Int.reduceToNat, y0_0, y0_1, y0_7, y0_9, y0_10]
            refine ⟨fzi _, prPair_fz _ _ _, fzi _, prPair_fz _ _ _, ?_⟩
            simp (decide := true) only [ax, axd, tabs, s0, Int.reduceToNat, fzi, y0_0, y0_1, y0_7, y0_9, y0_10]
            have zz : (sF).size = 1 := rfl
            have z3 : s.2.1.size + 1 ≤ 9223372036854775807 := by omega
            have z4 : (s.1.length + (1 + (1 + (1 + 1)))) * 24 ≤ 140737488355328 := by omega
            have fin : ∀ (T : Tm) (M' : List AO), T 8 = iv (lf - 2 : Nat) → T 12 = .str (s.2.1 ++ sF) → T 13 = .bool e3 → Grow 1 M.length ((round1 ts od false lf s).1.map fzi) (T 11) M' → AgT [0, 1, 7, 9, 10] T T0_ → M <+: M' → ∃ d', d' < lf ∧ TrInv ts od false M d' T M' (AgT [0, 1, 7, 9, 10] T T0_) :=
              fun T M' k8 k12 k13 kg kf kM => ⟨lf - 2, by omega, f, lf - 2, _, rfl, by omega, by omega, by omega, hr, by rw [hround]; simp; omega, by rw [hround]; simp [ByteArray.size_append, zz]; omega, k8, by rw [hround]; exact k12, by rw [hround]; exact k13, kg, kf, kM⟩
            rcases hg with ⟨hL, ha⟩ | ⟨ot, ha, hot, hrow⟩
            · simp (decide := true) only [ax, axd, tabs, s0, Int.reduceToNat, ha]
              try (simp (decide := true) only [ax, tabs, s0, Int.reduceToNat, y0_0, y0_1, y0_7, y0_9, y0_10, t8, t12, t13, w1])
              repeat (first
                | refine AW.seq ?_
                | refine AW.blockS ?_
                | ((first | refine AW.skip ?_ | refine AW.exit ?_ | refine AW.opsN rfl ?_ | refine AW.ret ?_); try (simp (decide := true) only [ax, tabs, s0, Int.reduceToNat, y0_0, y0_1, y0_7, y0_9, y0_10, t8, t12, t13, w1]))
                | (refine AW.condT ?_ ?_; (focus (simp (decide := true) only [ax, tabs, s0, Int.reduceToNat, y0_0, y0_1, y0_7, y0_9, y0_10, t8, t12, t13, w1]; done)))
                | (refine AW.condF ?_ ?_; (focus (simp (decide := true) only [ax, tabs, s0, Int.reduceToNat, y0_0, y0_1, y0_7, y0_9, y0_10, t8, t12, t13, w1]; done))))
              refine ⟨z3, ?_⟩
              try (simp (decide := true) only [ax, tabs, s0, Int.reduceToNat, y0_0, y0_1, y0_7, y0_9, y0_10, t8, t12, t13, w1])
              repeat (first
                | refine AW.seq ?_
                | refine AW.blockS ?_
                | ((first | refine AW.skip ?_ | refine AW.exit ?_ | refine AW.opsN rfl ?_ | refine AW.ret ?_); try (simp (decide := true) only [ax, tabs, s0, Int.reduceToNat, y0_0, y0_1, y0_7, y0_9, y0_10, t8, t12, t13, w1]))
                | (refine AW.condT ?_ ?_; (focus (simp (decide := true) only [ax, tabs, s0, Int.reduceToNat, y0_0, y0_1, y0_7, y0_9, y0_10, t8, t12, t13, w1]; done)))
                | (refine AW.condF ?_ ?_; (focus (simp (decide := true) only [ax, tabs, s0, Int.reduceToNat, y0_0, y0_1, y0_7, y0_9, y0_10, t8, t12, t13, w1]; done))))
              refine fin _ _ (by simp (decide := true) only [ax, tabs, s0, Int.reduceToNat, w1]) (by simp (decide := true) only [ax, tabs, s0, Int.reduceToNat]; rfl) (by rw [← he3, hev]; simp (decide := true) only [ax, tabs, s0, Int.reduceToNat]) ?_ ?_ ?_
              · rw [hround]; refine .inr ⟨M.length + J.length, ?_, by omega, ?_⟩
                · try (simp (decide := true) only [ax, tabs, s0, Int.reduceToNat])
                  simp [hL]
                · rw [flat_fzi]; simp [hL]; exact ⟨rfl, rfl, rfl, rfl⟩
              · try (simp (decide := true) only [ax, tabs, s0, Int.reduceToNat, AgT_cons, AgT_nil, and_true, y0_0, y0_1, y0_7, y0_9, y0_10, z0_0, z0_1, z0_7, z0_9, z0_10, z0_8, z0_11, z0_12, z0_13])
              · simp
            · simp (decide := true) only [ax, axd, tabs, s0, Int.reduceToNat, ha, hrow, flat_fzi, List.length_map, z4]
              try (simp (decide := true) only [ax, tabs, s0, Int.reduceToNat, y0_0, y0_1, y0_7, y0_9, y0_10, t8, t12, t13, w1])
              repeat (first
                | refine AW.seq ?_
                | refine AW.blockS ?_
                | ((first | refine AW.skip ?_ | refine AW.exit ?_ | refine AW.opsN rfl ?_ | refine AW.ret ?_); try (simp (decide := true) only [ax, tabs, s0, Int.reduceToNat, y0_0, y0_1, y0_7, y0_9, y0_10, t8, t12, t13, w1]))
                | (refine AW.condT ?_ ?_; (focus (simp (decide := true) only [ax, tabs, s0, Int.reduceToNat, y0_0, y0_1, y0_7, y0_9, y0_10, t8, t12, t13, w1]; done)))
                | (refine AW.condF ?_ ?_; (focus (simp (decide := true) only [ax, tabs, s0, Int.reduceToNat, y0_0, y0_1, y0_7, y0_9, y0_10, t8, t12, t13, w1]; done))))
              refine ⟨z3, ?_⟩
              try (simp (decide := true) only [ax, tabs, s0, Int.reduceToNat, y0_0, y0_1, y0_7, y0_9, y0_10, t8, t12, t13, w1])
              repeat (first
                | refine AW.seq ?_
                | refine AW.blockS ?_
                | ((first | refine AW.skip ?_ | refine AW.exit ?_ | refine AW.opsN rfl ?_ | refine AW.ret ?_); try (simp (decide := true) only [ax, tabs, s0, Int.reduceToNat, y0_0, y0_1, y0_7, y0_9, y0_10, t8, t12, t13, w1]))
                | (refine AW.condT ?_ ?_; (focus (simp (decide := true) only [ax, tabs, s0, Int.reduceToNat, y0_0, y0_1, y0_7, y0_9, y0_10, t8, t12, t13, w1]; done)))
                | (refine AW.condF ?_ ?_; (focus (simp (decide := true) only [ax, tabs, s0, Int.reduceToNat, y0_0, y0_1, y0_7, y0_9, y0_10, t8, t12, t13, w1]; done))))
              refine fin _ _ (by simp (decide := true) only [ax, tabs, s0, Int.reduceToNat, w1]) (by simp (decide := true) only [ax, tabs, s0, Int.reduceToNat]; rfl) (by rw [← he3, hev]; simp (decide := true) only [ax, tabs, s0, Int.reduceToNat]) ?_ ?_ ?_
              · rw [hround]; refine .inr ⟨ot, ?_, hot, ?_⟩
                · try (simp (decide := true) only [ax, tabs, s0, Int.reduceToNat])
                  try simp
                · rw [flat_fzi, List.getElem?_set_self (lt_of_obj hrow)]; simp; exact ⟨rfl, rfl, rfl, rfl⟩
              · try (simp (decide := true) only [ax, tabs, s0, Int.reduceToNat, AgT_cons, AgT_nil, and_true, y0_0, y0_1, y0_7, y0_9, y0_10, z0_0, z0_1, z0_7, z0_9, z0_10, z0_8, z0_11, z0_12, z0_13])
              · exact set_keep hot
          · have hround : round1 ts od true lf s = (s.1 ++ [srt [gi od 0, gi od (lf - 1)]] ++ [srt [gi od 0]] ++ [srt [gi od 0, gi od (lf - 2)]] ++ [srt [gi od 0]], s.2.1 ++ sE, e3) := by
              rw [← he3]; simp only [round1]; rw [if_neg (by simp)]
            try (simp (decide := true) only [ax, tabs, s0, Int.reduceToNat, y0_0, y0_1, y0_7, y0_9, y0_10])
            repeat (first
              | refine AW.seq ?_
              | refine AW.blockS ?_
              | ((first | refine AW.skip ?_ | refine AW.exit ?_ | refine AW.opsN rfl ?_ | refine AW.ret ?_); try (simp (decide := true) only [ax, tabs, s0, Int.reduceToNat, y0_0, y0_1, y0_7, y0_9, y0_10]))
              | (refine AW.condT ?_ ?_; (focus (simp (decide := true) only [ax, tabs, s0, Int.reduceToNat, y0_0, y0_1, y0_7, y0_9, y0_10]; done)))
              | (refine AW.condF ?_ ?_; (focus (simp (decide := true) only [ax, tabs, s0, Int.reduceToNat, y0_0, y0_1, y0_7, y0_9, y0_10]; done))))
            repeat refine AW.seq ?_
            refine AW.lits [2, 2, 2, 0, 2, 2, 2, 2, 0, 2, 2, 2] ?_
            simp (decide := true) only [ax, axd, tabs, s0, Int.reduceToNat, y0_0, y0_1, y0_7, y0_9, y0_10]
            refine ⟨fzi _, prPair_fz _ _ _, fzi _, prPair_fz _ _ _, ?_⟩
            simp (decide := true) only [ax, axd, tabs, s0, Int.reduceToNat, fzi, y0_0, y0_1, y0_7, y0_9, y0_10]
            have zz : (sE).size = 1 := rfl
            have z3 : s.2.1.size + 1 ≤ 9223372036854775807 := by omega
            have z4 : (s.1.length + (1 + (1 + (1 + 1)))) * 24 ≤ 140737488355328 := by omega
            have fin : ∀ (T : Tm) (M' : List AO), T 8 = iv (lf - 2 : Nat) → T 12 = .str (s.2.1 ++ sE) → T 13 = .bool e3 → Grow 1 M.length ((round1 ts od true lf s).1.map fzi) (T 11) M' → AgT [0, 1, 7, 9, 10] T T0_ → M <+: M' → ∃ d', d' < lf ∧ TrInv ts od true M d' T M' (AgT [0, 1, 7, 9, 10] T T0_) :=
              fun T M' k8 k12 k13 kg kf kM => ⟨lf - 2, by omega, f, lf - 2, _, rfl, by omega, by omega, by omega, hr, by rw [hround]; simp; omega, by rw [hround]; simp [ByteArray.size_append, zz]; omega, k8, by rw [hround]; exact k12, by rw [hround]; exact k13, kg, kf, kM⟩
            rcases hg with ⟨hL, ha⟩ | ⟨ot, ha, hot, hrow⟩
            · simp (decide := true) only [ax, axd, tabs, s0, Int.reduceToNat, ha]
              try (simp (decide := true) only [ax, tabs, s0, Int.reduceToNat, y0_0, y0_1, y0_7, y0_9, y0_10, t8, t12, t13, w1])
              repeat (first
                | refine AW.seq ?_
                | refine AW.blockS ?_
                | ((first | refine AW.skip ?_ | refine AW.exit ?_ | refine AW.opsN rfl ?_ | refine AW.ret ?_); try (simp (decide := true) only [ax, tabs, s0, Int.reduceToNat, y0_0, y0_1, y0_7, y0_9, y0_10, t8, t12, t13, w1]))
                | (refine AW.condT ?_ ?_; (focus (simp (decide := true) only [ax, tabs, s0, Int.reduceToNat, y0_0, y0_1, y0_7, y0_9, y0_10, t8, t12, t13, w1]; done)))
                | (refine AW.condF ?_ ?_; (focus (simp (decide := true) only [ax, tabs, s0, Int.reduceToNat, y0_0, y0_1, y0_7, y0_9, y0_10, t8, t12, t13, w1]; done))))
              refine ⟨z3, ?_⟩
              try (simp (decide := true) only [ax, tabs, s0, Int.reduceToNat, y0_0, y0_1, y0_7, y0_9, y0_10, t8, t12, t13, w1])
              repeat (first
                | refine AW.seq ?_
                | refine AW.blockS ?_
                | ((first | refine AW.skip ?_ | refine AW.exit ?_ | refine AW.opsN rfl ?_ | refine AW.ret ?_); try (simp (decide := true) only [ax, tabs, s0, Int.reduceToNat, y0_0, y0_1, y0_7, y0_9, y0_10, t8, t12, t13, w1]))
                | (refine AW.condT ?_ ?_; (focus (simp (decide := true) only [ax, tabs, s0, Int.reduceToNat, y0_0, y0_1, y0_7, y0_9, y0_10, t8, t12, t13, w1]; done)))
                | (refine AW.condF ?_ ?_; (focus (simp (decide := true) only [ax, tabs, s0, Int.reduceToNat, y0_0, y0_1, y0_7, y0_9, y0_10, t8, t12, t13, w1]; done))))
              refine fin _ _ (by simp (decide := true) only [ax, tabs, s0, Int.reduceToNat, w1]) (by simp (decide := true) only [ax, tabs, s0, Int.reduceToNat]; rfl) (by rw [← he3, hev]; simp (decide := true) only [ax, tabs, s0, Int.reduceToNat]) ?_ ?_ ?_
              · rw [hround]; refine .inr ⟨M.length + J.length, ?_, by omega, ?_⟩
                · try (simp (decide := true) only [ax, tabs, s0, Int.reduceToNat])
                  simp [hL]
                · rw [flat_fzi]; simp [hL]; exact ⟨rfl, rfl, rfl, rfl⟩
              · try (simp (decide := true) only [ax, tabs, s0, Int.reduceToNat, AgT_cons, AgT_nil, and_true, y0_0, y0_1, y0_7, y0_9, y0_10, z0_0, z0_1, z0_7, z0_9, z0_10, z0_8, z0_11, z0_12, z0_13])
              · simp
            · simp (decide := true) only [ax, axd, tabs, s0, Int.reduceToNat, ha, hrow, flat_fzi, List.length_map, z4]
              try (simp (decide := true) only [ax, tabs, s0, Int.reduceToNat, y0_0, y0_1, y0_7, y0_9, y0_10, t8, t12, t13, w1])
              repeat (first
                | refine AW.seq ?_
                | refine AW.blockS ?_
                | ((first | refine AW.skip ?_ | refine AW.exit ?_ | refine AW.opsN rfl ?_ | refine AW.ret ?_); try (simp (decide := true) only [ax, tabs, s0, Int.reduceToNat, y0_0, y0_1, y0_7, y0_9, y0_10, t8, t12, t13, w1]))
                | (refine AW.condT ?_ ?_; (focus (simp (decide := true) only [ax, tabs, s0, Int.reduceToNat, y0_0, y0_1, y0_7, y0_9, y0_10, t8, t12, t13, w1]; done)))
                | (refine AW.condF ?_ ?_; (focus (simp (decide := true) only [ax, tabs, s0, Int.reduceToNat, y0_0, y0_1, y0_7, y0_9, y0_10, t8, t12, t13, w1]; done))))
              refine ⟨z3, ?_⟩
              try (simp (decide := true) only [ax, tabs, s0, Int.reduceToNat, y0_0, y0_1, y0_7, y0_9, y0_10, t8, t12, t13, w1])
              repeat (first
                | refine AW.seq ?_
                | refine AW.blockS ?_
                | ((first | refine AW.skip ?_ | refine AW.exit ?_ | refine AW.opsN rfl ?_ | refine AW.ret ?_); try (simp (decide := true) only [ax, tabs, s0, Int.reduceToNat, y0_0, y0_1, y0_7, y0_9, y0_10, t8, t12, t13, w1]))
                | (refine AW.condT ?_ ?_; (focus (simp (decide := true) only [ax, tabs, s0, Int.reduceToNat, y0_0, y0_1, y0_7, y0_9, y0_10, t8, t12, t13, w1]; done)))
                | (refine AW.condF ?_ ?_; (focus (simp (decide := true) only [ax, tabs, s0, Int.reduceToNat, y0_0, y0_1, y0_7, y0_9, y0_10, t8, t12, t13, w1]; done))))
              refine fin _ _ (by simp (decide := true) only [ax, tabs, s0, Int.reduceToNat, w1]) (by simp (decide := true) only [ax, tabs, s0, Int.reduceToNat]; rfl) (by rw [← he3, hev]; simp (decide := true) only [ax, tabs, s0, Int.reduceToNat]) ?_ ?_ ?_
              · rw [hround]; refine .inr ⟨ot, ?_, hot, ?_⟩
                · try (simp (decide := true) only [ax, tabs, s0, Int.reduceToNat])
                  try simp
                · rw [flat_fzi, List.getElem?_set_self (lt_of_obj hrow)]; simp; exact ⟨rfl, rfl, rfl, rfl⟩
              · try (simp (decide := true) only [ax, tabs, s0, Int.reduceToNat, AgT_cons, AgT_nil, and_true, y0_0, y0_1, y0_7, y0_9, y0_10, z0_0, z0_1, z0_7, z0_9, z0_10, z0_8, z0_11, z0_12, z0_13])
              · exact set_keep hot
    · have h3 : lf ≤ 3 := by have := of_decide_eq_false h; omega
      try (simp (decide := true) only [ax, tabs, s0, Int.reduceToNat])
      repeat (first
        | refine AW.seq ?_
        | refine AW.blockS ?_
        | ((first | refine AW.skip ?_ | refine AW.exit ?_ | refine AW.opsN rfl ?_ | refine AW.ret ?_); try (simp (decide := true) only [ax, tabs, s0, Int.reduceToNat]))
        | (refine AW.condT ?_ ?_; (focus (simp (decide := true) only [ax, tabs, s0, Int.reduceToNat]; done)))
        | (refine AW.condF ?_ ?_; (focus (simp (decide := true) only [ax, tabs, s0, Int.reduceToNat]; done))))
      refine ⟨lf, s, ?_, hl1, h3, hl2, by omega, t8, t12, t13, hg, by simp (decide := true) only [ax, tabs, s0, Int.reduceToNat, AgT_cons, AgT_nil, and_true, y0_0, y0_1, y0_7, y0_9, y0_10, z0_0, z0_1, z0_7, z0_9, z0_10, z0_8, z0_11, z0_12, z0_13], List.prefix_append _ _⟩
      refine hcr lf s ?_
      rw [hol, ← hr]
      cases f with
      | zero => rfl
      | succ f => simp only [rounds]; rw [if_neg (by omega)]
  · rintro T M' ⟨lf, s, hcf, hl1, hl2, hl3, hs1, t8, t12, t13, hg, fr, J, rfl⟩
    have y0_0 := (fr 0 (by decide)).trans z0_0
    have y0_1 := (fr 1 (by decide)).trans z0_1
    have y0_7 := (fr 7 (by decide)).trans z0_7
    have y0_9 := (fr 9 (by decide)).trans z0_9
    have y0_10 := (fr 10 (by decide)).trans z0_10
    rw [hcf]
    repeat refine AW.seq ?_
    refine AW.lits [2, 2, 2, 0, 2] ?_
    simp (decide := true) only [ax, axd, tabs, s0, Int.reduceToNat, y0_0, y0_1, y0_7, y0_9, y0_10]
    refine ⟨fzi _, prPair_fz _ _ _, ?_⟩
    simp (decide := true) only [ax, axd, tabs, s0, Int.reduceToNat, fzi, y0_0, y0_1, y0_7, y0_9, y0_10]
    obtain ⟨z4, z5, z6, z7⟩ : (s.1.length + 1) * 24 ≤ 140737488355328 ∧ (s.1.length + 1 + (1 + 1)) * 24 ≤ 140737488355328 ∧ (s.1.length + (1 + (1 + 1))) * 24 ≤ 140737488355328 ∧ (1 + (1 + 1)) * 24 ≤ 140737488355328 := ⟨room (by omega), room (by omega), room (by omega), room (by omega)⟩
    have e2 : (ints od).getD 2 .any = iv (gi od 2) ∨ lf ≠ 3 := by
      rcases Nat.lt_or_ge 2 ts.length with h | h
      · exact .inl (hon 2 h)
      · exact .inr (by omega)
    rcases hg with ⟨hL, ha⟩ | ⟨ot, ha, hot, hrow⟩
    · have hL' : s.1 = [] := by simpa using hL
      simp (decide := true) only [ax, axd, tabs, s0, Int.reduceToNat, ha]
      try (simp (decide := true) only [ax, tabs, s0, Int.reduceToNat, y0_0, y0_1, y0_7, y0_9, y0_10, t8, t12, t13])
      repeat (first
        | refine AW.seq ?_
        | refine AW.blockS ?_
        | ((first | refine AW.skip ?_ | refine AW.exit ?_ | refine AW.opsN rfl ?_ | refine AW.ret ?_); try (simp (decide := true) only [ax, tabs, s0, Int.reduceToNat, y0_0, y0_1, y0_7, y0_9, y0_10, t8, t12, t13]))
        | (refine AW.condT ?_ ?_; (focus (simp (decide := true) only [ax, tabs, s0, Int.reduceToNat, y0_0, y0_1, y0_7, y0_9, y0_10, t8, t12, t13]; done)))
        | (refine AW.condF ?_ ?_; (focus (simp (decide := true) only [ax, tabs, s0, Int.reduceToNat, y0_0, y0_1, y0_7, y0_9, y0_10, t8, t12, t13]; done))))
      have hrow2 : ((M ++ (J ++ [.mem [.fz 1 (ints (srt [gi od 0, gi od 1]))]])))[(M.length + J.length)]? = some (.mem ((s.1 ++ [srt [gi od 0, gi od 1]]).map fzi)) := by
        simp [hL']; rfl
      have hge : M.length ≤ (M.length + J.length) := by omega
      have hpre : M <+: (M ++ (J ++ [.mem [.fz 1 (ints (srt [gi od 0, gi od 1]))]])) := by
        simp
      generalize hMM : (M ++ (J ++ [.mem [.fz 1 (ints (srt [gi od 0, gi od 1]))]])) = MM at hrow2 hpre ⊢
      generalize ho : (M.length + J.length) = oo at hrow2 hge ⊢
      obtain ⟨J2, rfl⟩ := hpre
      have hl3' : (last od lf s).2 = s.2 := by unfold last; split <;> (try split) <;> rfl
      obtain rfl | rfl : lf = 3 ∨ lf = 2 := by omega
      · refine AW.condT (by simp (decide := true) only [ax, tabs, s0, Int.reduceToNat, t8]) ?_
        have e2 : (ints od).getD 2 .any = iv (gi od 2) := e2.resolve_right fun h => h rfl
        have l2 : 2 < ts.length := by omega
        have m2 : (2 : Int) < ts.length := by omega
        repeat refine AW.seq ?_
        refine AW.lits [2, 2, 2, 2, 2, 0, 0, 0, 2] ?_
        simp (decide := true) only [ax, axd, tabs, s0, Int.reduceToNat, y0_0, y0_1, y0_7, y0_9, y0_10, e2, l2, m2, ints_length, hol]
        refine ⟨fzi _, prPair_fz _ _ _, ?_⟩
        simp (decide := true) only [ax, axd, tabs, s0, Int.reduceToNat, fzi, y0_0, y0_1, y0_7, y0_9, y0_10, hrow2, List.length_map, List.length_append, List.length_cons, List.length_nil, hL', z5, z6, z7]
        try (simp (decide := true) only [ax, tabs, s0, Int.reduceToNat, y0_0, y0_1, y0_7, y0_9, y0_10])
        repeat (first
          | refine AW.seq ?_
          | refine AW.blockS ?_
          | ((first | refine AW.skip ?_ | refine AW.exit ?_ | refine AW.opsN rfl ?_ | refine AW.ret ?_); try (simp (decide := true) only [ax, tabs, s0, Int.reduceToNat, y0_0, y0_1, y0_7, y0_9, y0_10]))
          | (refine AW.condT ?_ ?_; (focus (simp (decide := true) only [ax, tabs, s0, Int.reduceToNat, y0_0, y0_1, y0_7, y0_9, y0_10]; done)))
          | (refine AW.condF ?_ ?_; (focus (simp (decide := true) only [ax, tabs, s0, Int.reduceToNat, y0_0, y0_1, y0_7, y0_9, y0_10]; done))))
        rw [List.set_append_right _ _ hge]
        refine left (.inr rfl) hcl (Nat.le_refl _) (by simp (decide := true) only [ax, tabs, s0, Int.reduceToNat]; rfl) ?_ ⟨rfl, rfl⟩
        try (simp (decide := true) only [ax, tabs, s0, Int.reduceToNat, t12, t13])
        refine tell_tup (.cons (tell_row' (L := (last od 3 s).1) ?_ hge ?_) (.cons (tell_eq (by rw [hl3']) (.of_scal rfl)) (.cons (tell_eq (by rw [hl3']) (.of_scal rfl)) .nil)))
        · rw [← List.set_append_right _ _ hge, List.getElem?_set_self (lt_of_obj hrow2)]; simp [last, hL']; first | exact ⟨rfl, rfl⟩ | rfl
        · simp [last, hL']
      · refine AW.condF (by simp (decide := true) only [ax, tabs, s0, Int.reduceToNat, t8]) ?_
        try (simp (decide := true) only [ax, tabs, s0, Int.reduceToNat, y0_0, y0_1, y0_7, y0_9, y0_10])
        repeat (first
          | refine AW.seq ?_
          | refine AW.blockS ?_
          | ((first | refine AW.skip ?_ | refine AW.exit ?_ | refine AW.opsN rfl ?_ | refine AW.ret ?_); try (simp (decide := true) only [ax, tabs, s0, Int.reduceToNat, y0_0, y0_1, y0_7, y0_9, y0_10]))
          | (refine AW.condT ?_ ?_; (focus (simp (decide := true) only [ax, tabs, s0, Int.reduceToNat, y0_0, y0_1, y0_7, y0_9, y0_10]; done)))
          | (refine AW.condF ?_ ?_; (focus (simp (decide := true) only [ax, tabs, s0, Int.reduceToNat, y0_0, y0_1, y0_7, y0_9, y0_10]; done))))
        refine left (.inr rfl) hcl (Nat.le_refl _) (by simp (decide := true) only [ax, tabs, s0, Int.reduceToNat]; rfl) ?_ ⟨rfl, rfl⟩
        try (simp (decide := true) only [ax, tabs, s0, Int.reduceToNat, t12, t13])
        refine tell_tup (.cons (tell_row' (L := (last od 2 s).1) ?_ hge ?_) (.cons (tell_eq (by rw [hl3']) (.of_scal rfl)) (.cons (tell_eq (by rw [hl3']) (.of_scal rfl)) .nil)))
        · rw [hrow2]; simp [last]
        · simp [last, hL']
    · have hL' : True := trivial
      simp (decide := true) only [ax, axd, tabs, s0, Int.reduceToNat, ha, hrow, flat_fzi, List.length_map, z4]
      try (simp (decide := true) only [ax, tabs, s0, Int.reduceToNat, y0_0, y0_1, y0_7, y0_9, y0_10, t8, t12, t13])
      repeat (first
        | refine AW.seq ?_
        | refine AW.blockS ?_
        | ((first | refine AW.skip ?_ | refine AW.exit ?_ | refine AW.opsN rfl ?_ | refine AW.ret ?_); try (simp (decide := true) only [ax, tabs, s0, Int.reduceToNat, y0_0, y0_1, y0_7, y0_9, y0_10, t8, t12, t13]))
        | (refine AW.condT ?_ ?_; (focus (simp (decide := true) only [ax, tabs, s0, Int.reduceToNat, y0_0, y0_1, y0_7, y0_9, y0_10, t8, t12, t13]; done)))
        | (refine AW.condF ?_ ?_; (focus (simp (decide := true) only [ax, tabs, s0, Int.reduceToNat, y0_0, y0_1, y0_7, y0_9, y0_10, t8, t12, t13]; done))))
      have hrow2 : (((M ++ J).set ot (.mem (List.map fzi s.fst ++ [.fz 1 (ints (srt [gi od 0, gi od 1]))]))))[ot]? = some (.mem ((s.1 ++ [srt [gi od 0, gi od 1]]).map fzi)) := by
        rw [List.getElem?_set_self (lt_of_obj hrow)]; simp; rfl
      have hge : M.length ≤ ot := by omega
      have hpre : M <+: ((M ++ J).set ot (.mem (List.map fzi s.fst ++ [.fz 1 (ints (srt [gi od 0, gi od 1]))]))) := by
        exact set_keep hot
      generalize hMM : ((M ++ J).set ot (.mem (List.map fzi s.fst ++ [.fz 1 (ints (srt [gi od 0, gi od 1]))]))) = MM at hrow2 hpre ⊢
      generalize ho : ot = oo at hrow2 hge ⊢
      obtain ⟨J2, rfl⟩ := hpre
      have hl3' : (last od lf s).2 = s.2 := by unfold last; split <;> (try split) <;> rfl
      obtain rfl | rfl : lf = 3 ∨ lf = 2 := by omega
      · refine AW.condT (by simp (decide := true) only [ax, tabs, s0, Int.reduceToNat, t8]) ?_
        have e2 : (ints od).getD 2 .any = iv (gi od 2) := e2.resolve_right fun h => h rfl
        have l2 : 2 < ts.length := by omega
        have m2 : (2 : Int) < ts.length := by omega
        repeat refine AW.seq ?_
        refine AW.lits [2, 2, 2, 2, 2, 0, 0, 0, 2] ?_
        simp (decide := true) only [ax, axd, tabs, s0, Int.reduceToNat, y0_0, y0_1, y0_7, y0_9, y0_10, e2, l2, m2, ints_length, hol]
        refine ⟨fzi _, prPair_fz _ _ _, ?_⟩
        simp (decide := true) only [ax, axd, tabs, s0, Int.reduceToNat, fzi, y0_0, y0_1, y0_7, y0_9, y0_10, hrow2, List.length_map, List.length_append, List.length_cons, List.length_nil, hL', z5, z6, z7]
        try (simp (decide := true) only [ax, tabs, s0, Int.reduceToNat, y0_0, y0_1, y0_7, y0_9, y0_10])
        repeat (first
          | refine AW.seq ?_
          | refine AW.blockS ?_
          | ((first | refine AW.skip ?_ | refine AW.exit ?_ | refine AW.opsN rfl ?_ | refine AW.ret ?_); try (simp (decide := true) only [ax, tabs, s0, Int.reduceToNat, y0_0, y0_1, y0_7, y0_9, y0_10]))
          | (refine AW.condT ?_ ?_; (focus (simp (decide := true) only [ax, tabs, s0, Int.reduceToNat, y0_0, y0_1, y0_7, y0_9, y0_10]; done)))
          | (refine AW.condF ?_ ?_; (focus (simp (decide := true) only [ax, tabs, s0, Int.reduceToNat, y0_0, y0_1, y0_7, y0_9, y0_10]; done))))
        rw [List.set_append_right _ _ hge]
        refine left (.inr rfl) hcl (Nat.le_refl _) (by simp (decide := true) only [ax, tabs, s0, Int.reduceToNat]; rfl) ?_ ⟨rfl, rfl⟩
        try (simp (decide := true) only [ax, tabs, s0, Int.reduceToNat, t12, t13])
        refine tell_tup (.cons (tell_row' (L := (last od 3 s).1) ?_ hge ?_) (.cons (tell_eq (by rw [hl3']) (.of_scal rfl)) (.cons (tell_eq (by rw [hl3']) (.of_scal rfl)) .nil)))
        · rw [← List.set_append_right _ _ hge, List.getElem?_set_self (lt_of_obj hrow2)]; simp [last, hL']; first | exact ⟨rfl, rfl⟩ | rfl
        · simp [last, hL']
      · refine AW.condF (by simp (decide := true) only [ax, tabs, s0, Int.reduceToNat, t8]) ?_
        try (simp (decide := true) only [ax, tabs, s0, Int.reduceToNat, y0_0, y0_1, y0_7, y0_9, y0_10])
        repeat (first
          | refine AW.seq ?_
          | refine AW.blockS ?_
          | ((first | refine AW.skip ?_ | refine AW.exit ?_ | refine AW.opsN rfl ?_ | refine AW.ret ?_); try (simp (decide := true) only [ax, tabs, s0, Int.reduceToNat, y0_0, y0_1, y0_7, y0_9, y0_10]))
          | (refine AW.condT ?_ ?_; (focus (simp (decide := true) only [ax, tabs, s0, Int.reduceToNat, y0_0, y0_1, y0_7, y0_9, y0_10]; done)))
          | (refine AW.condF ?_ ?_; (focus (simp (decide := true) only [ax, tabs, s0, Int.reduceToNat, y0_0, y0_1, y0_7, y0_9, y0_10]; done))))
        refine left (.inr rfl) hcl (Nat.le_refl _) (by simp (decide := true) only [ax, tabs, s0, Int.reduceToNat]; rfl) ?_ ⟨rfl, rfl⟩
        try (simp (decide := true) only [ax, tabs, s0, Int.reduceToNat, t12, t13])
        refine tell_tup (.cons (tell_row' (L := (last od 2 s).1) ?_ hge ?_) (.cons (tell_eq (by rw [hl3']) (.of_scal rfl)) (.cons (tell_eq (by rw [hl3']) (.of_scal rfl)) .nil)))
        · rw [hrow2]; simp [last]
        · simp [last, hL']
end Go.Ax
