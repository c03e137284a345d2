/- Lists that do not fall: what calls back. -/
import Derived.Test.YtnbfoiidlbfbeaaGreatP14
set_option linter.unusedVariables false
set_option linter.unusedSimpArgs false
namespace Go.Ax
open Go.Proofs

/-- A row that is handed on is frozen. -/
theorem AC.frz {E : Env} {f : FuncId} {k o len g : Nat} {cs xs rest : List AV} {M : List AO} {Q : AV → List AO → Prop} (ho : M[o]? = some (.mem cs)) (hg : cs.length = g) (hx : xs.length = len) (hk : ∀ x ∈ xs, x.cells.length = k) (hf : flat xs = cs)
    (h : AC E f (.fz k xs :: rest) (M.set o .dead) Q) : AC E f (.sl k o 0 len g :: rest) M Q := by
  refine ⟨h.1, fun c w vs s r => ?_⟩
  obtain ⟨fr, sim⟩ := s.sim.freeze o cs ho
  have hs : SimE E _ (M.set o .dead) w.heap := s.mk' fr sim
  have hr : Rl { c with φ := fun b => c.φ b ∨ b = c.σ o } (M.set o .dead) w.heap (.fz k xs :: rest) vs.toList := by
    refine ⟨by simpa using r.1, fun i a hi => ?_⟩
    cases i with
    | zero =>
      simp at hi; subst hi
      obtain ⟨u, hu, hr⟩ := r.2 0 _ rfl
      subst hg
      exact ⟨u, hu, hr.freeze s.sim ho hx hk (fun j b hb => by rw [Nat.zero_add, ← hf]; exact hb)⟩
    | succ i =>
      obtain ⟨u, hu, hr⟩ := r.2 (i + 1) a (by simpa using hi)
      exact ⟨u, hu, hr.mono fr⟩
  refine (h.2 _ w vs hs hr).mono ?_
  rintro e w' ⟨r1, v, M', c', he, hq, hf1, hw, hs1, hR⟩
  exact ⟨r1, v, M', c', he, hq, fr.trans hf1, hw, hs1, hR⟩

theorem AC.frzP {E : Env} {f : FuncId} {k o len g : Nat} {cs xs : List AV} (pre rest : List AV) {M : List AO} {Q : AV → List AO → Prop} (ho : M[o]? = some (.mem cs)) (hg : cs.length = g) (hx : xs.length = len) (hk : ∀ x ∈ xs, x.cells.length = k) (hf : flat xs = cs)
    (h : AC E f (pre ++ .fz k xs :: rest) (M.set o .dead) Q) : AC E f (pre ++ .sl k o 0 len g :: rest) M Q := by
  refine ⟨h.1, fun c w vs s r => ?_⟩
  obtain ⟨fr, sim⟩ := s.sim.freeze o cs ho
  have hs : SimE E _ (M.set o .dead) w.heap := s.mk' fr sim
  have hr : Rl { c with φ := fun b => c.φ b ∨ b = c.σ o } (M.set o .dead) w.heap (pre ++ .fz k xs :: rest) vs.toList := by
    refine ⟨by simpa using r.1, fun i a hi => ?_⟩
    rcases Nat.lt_trichotomy i pre.length with hlt | rfl | hgt
    · rw [List.getElem?_append_left hlt] at hi
      obtain ⟨u, hu, hr⟩ := r.2 i a (by rw [List.getElem?_append_left hlt]; exact hi)
      exact ⟨u, hu, hr.mono fr⟩
    · rw [List.getElem?_append_right (Nat.le_refl _), Nat.sub_self] at hi
      simp at hi; subst hi
      obtain ⟨u, hu, hr⟩ := r.2 pre.length (.sl k o 0 len g) (by rw [List.getElem?_append_right (Nat.le_refl _), Nat.sub_self]; rfl)
      subst hg
      exact ⟨u, hu, hr.freeze s.sim ho hx hk (fun j b hb => by rw [Nat.zero_add, ← hf]; exact hb)⟩
    · obtain ⟨j, hj⟩ : ∃ j, i - pre.length = j + 1 := ⟨i - pre.length - 1, by omega⟩
      rw [List.getElem?_append_right (by omega), hj] at hi
      obtain ⟨u, hu, hr⟩ := r.2 i a (by rw [List.getElem?_append_right (by omega), hj]; simpa using hi)
      exact ⟨u, hu, hr.mono fr⟩
  refine (h.2 _ w vs hs hr).mono ?_
  rintro e w' ⟨r1, v, M', c', he, hq, hf1, hw, hs1, hR⟩
  exact ⟨r1, v, M', c', he, hq, fr.trans hf1, hw, hs1, hR⟩

/-- What one box and the row in it take up. -/
def Foot (oo : Nat) (M : List AO) (q : Nat) : Prop := q = oo ∨ ∃ k off len g, M[oo]? = some (.mem [.sl k q off len g])
/-- From one memory to a later one: that box, its row, and what is new. -/
structure Chg (oo : Nat) (M M' : List AO) : Prop where
  len : M.length ≤ M'.length
  keep : ∀ q, q < M.length → ¬ Foot oo M q → M'[q]? = M[q]?
  foot : ∀ q, Foot oo M' q → Foot oo M q ∨ M.length ≤ q
theorem Chg.refl (oo : Nat) (M : List AO) : Chg oo M M := ⟨Nat.le_refl _, fun _ _ _ => rfl, fun _ h => .inl h⟩
theorem Chg.trans {oo : Nat} {M M1 M2 : List AO} (a : Chg oo M M1) (b : Chg oo M1 M2) : Chg oo M M2 :=
  ⟨Nat.le_trans a.len b.len, fun q hq hf => by
    rw [b.keep q (Nat.lt_of_lt_of_le hq a.len) (fun h => by rcases a.foot q h with h | h; exact hf h; omega)]; exact a.keep q hq hf,
   fun q h => by
    rcases b.foot q h with h | h
    · exact a.foot q h
    · exact .inr (Nat.le_trans a.len h)⟩
theorem Chg.junk {oo : Nat} {M : List AO} (ho : oo < M.length) (X : List AO) : Chg oo M (M ++ X) :=
  ⟨by simp, fun q hq _ => List.getElem?_append_left hq, fun q h => by
    rcases h with rfl | ⟨k, off, len, g, h⟩
    · exact .inl (.inl rfl)
    · rw [List.getElem?_append_left ho] at h; exact .inl (.inr ⟨k, off, len, g, h⟩)⟩
/-- An object that stays. -/
structure Stay (oo : Nat) (M : List AO) (b : Nat) (x : AO) : Prop where
  at_ : M[b]? = some x
  off : ¬ Foot oo M b
theorem Chg.stay {oo : Nat} {M M' : List AO} (h : Chg oo M M') {b : Nat} {x : AO} (s : Stay oo M b x) : Stay oo M' b x := by
  have hlt := lt_of_obj s.at_
  refine ⟨by rw [h.keep b hlt s.off]; exact s.at_, fun hf => ?_⟩
  rcases h.foot b hf with h | h
  · exact s.off h
  · omega

/-- What a function that is called back does: from state to state, and whether it goes on. -/
structure CB {σ : Type} (g : FuncId) (caps : List AV) (oo : Nat) (J : Nat → σ → List AO → Prop) (step : σ → List Int → σ × Bool) (ok : List Int → Prop) : Prop where
  box : ∀ n s M, J n s M → oo < M.length
  mono : ∀ n m s M, J n s M → m ≤ n → J m s M
  junk : ∀ n s M X, J n s M → J n s (M ++ X)
  call : ∀ n s M l, J (1 + n) s M → ok l → AC E g (fzi l :: caps) M (fun r M' => r = .bool (step s l).2 ∧ J n (step s l).1 M' ∧ Chg oo M M')

def nfGo {σ : Type} (k : Int → σ → σ × Bool) : Nat → Int → σ → σ × Bool
  | 0, _, s => (s, true)
  | n + 1, x, s => if (k x s).2 = true then nfGo k n (x + 1) (k x s).1 else ((k x s).1, false)
def leastF (l : List Int) : Int := if 0 < l.length then l.getD (l.length - 1) 0 else 1
def nfL {σ : Type} (step : σ → List Int → σ × Bool) (most : Int) : Nat → List Int → σ → σ × Bool
  | 0, l, s => step s l
  | f + 1, l, s => nfGo (fun x s => nfL step most f (l ++ [x]) s) (most + 1 - leastF l).toNat (leastF l) s

theorem CloneInt_sl (l : List Int) (M : List AO) (hl : l.length ≤ 2000000) (h0 : l ≠ []) : AC E 47 [.fz 1 (ints l)] M (fun r M' => r = .sl 1 M.length 0 l.length l.length ∧ M' = M ++ [.mem (ints l)]) :=
  (CloneInt_row (ints l) M (by rw [ints_length]; exact hl) (.ints ..) (by rw [flat_ints]; exact ints_all l)).mono fun r M' h => by
    rcases h with ⟨h, _⟩ | ⟨h1, h2⟩
    · exact absurd (by simpa [ints] using h) h0
    · rw [ints_length, Nat.mul_one] at h1; rw [flat_ints] at h2; exact ⟨h1, h2⟩
theorem CloneInt_nil (M : List AO) : AC E 47 [.nils] M (fun r M' => r = .nils ∧ M' = M) := by
  refine AC.body (fn := Tryz.f47) Tryz.func47 rfl rfl (by simp [Tryz.f47]) fun hcl => ?_
  simp only [Tryz.f47]
  try (simp (decide := true) only [ax, tabs, s0, Int.reduceToNat])
  repeat (first
    | refine AW.seq ?_
    | refine AW.blockS ?_
    | ((first | refine AW.skip ?_ | refine AW.exit ?_ | refine AW.opsN rfl ?_ | refine AW.ret ?_); try (simp (decide := true) only [ax, tabs, s0, Int.reduceToNat]))
    | (refine AW.condT ?_ ?_; (focus (simp (decide := true) only [ax, tabs, s0, Int.reduceToNat]; done)))
    | (refine AW.condF ?_ ?_; (focus (simp (decide := true) only [ax, tabs, s0, Int.reduceToNat]; done))))
  first
    | refine leftJ (.inr rfl) hcl (Nat.le_refl _) (by simp (decide := true) only [ax, tabs, s0, Int.reduceToNat]; rfl) ?_ rfl ⟨rfl, rfl⟩
    | refine leftS (.inr rfl) hcl (Nat.le_refl _) (by simp (decide := true) only [ax, tabs, s0, Int.reduceToNat]; rfl) ?_ rfl ⟨rfl, rfl⟩
  simp (decide := true) only [ax, tabs, s0, Int.reduceToNat]
/-- A list that is nil where it is empty. -/
def nilfz (l : List Int) : AV := if l.length = 0 then .nils else fzi l
theorem Clone_nilfz (l : List Int) (M : List AO) (hl : l.length ≤ 2000000) : AC E 47 [nilfz l] M (fun r M' => (l = [] ∧ r = .nils ∧ M' = M) ∨ (l ≠ [] ∧ r = .sl 1 M.length 0 l.length l.length ∧ M' = M ++ [.mem (ints l)])) := by
  unfold nilfz
  split
  · rename_i h
    have : l = [] := List.eq_nil_of_length_eq_zero h
    exact (CloneInt_nil M).mono fun r M' ⟨h1, h2⟩ => .inl ⟨this, h1, h2⟩
  · rename_i h
    have : l ≠ [] := fun e => h (by rw [e]; rfl)
    exact (CloneInt_sl l M hl this).mono fun r M' ⟨h1, h2⟩ => .inr ⟨this, h1, h2⟩
theorem set_end {M : List AO} {x y : AO} : (M ++ [x]).set M.length y = M ++ [y] := by rw [List.set_append_right _ _ (Nat.le_refl _), Nat.sub_self]; rfl
theorem Stay.junk {oo : Nat} {M : List AO} {b : Nat} {x : AO} (s : Stay oo M b x) (ho : oo < M.length) (X : List AO) : (M ++ X)[b]? = some x := ((Chg.junk ho X).stay s).at_
set_option maxHeartbeats 4000000 in
theorem nfOn_ok {σ : Type} {g : FuncId} {caps : List AV} {oo : Nat} {J : Nat → σ → List AO → Prop} {step : σ → List Int → σ × Bool} (most : Int) (many : Nat) (hm : 0 ≤ most ∧ most ≤ 1000) (hn : many ≤ 1000)
    (cb : CB g caps oo J step fun l => l.length = many ∧ ∀ x ∈ l, 1 ≤ x ∧ x ≤ most) (b1 b2 b3 b4 : Nat) : ∀ (f n : Nat) (l : List Int) (s : σ) (M : List AO), l.length + f = many → 1 ≤ many → (∀ x ∈ l, 1 ≤ x ∧ x ≤ most) → J (most.toNat ^ f + n) s M →
    Stay oo M b1 (.mem [iv many]) → Stay oo M b2 (.mem [.fn g caps]) → Stay oo M b3 (.mem [iv most]) → Stay oo M b4 (.mem [.fn 86 [.ptr b1 0 1, .ptr b2 0 1, .ptr b3 0 1, .ptr b4 0 1]]) →
    AC E 86 [nilfz l, .ptr b1 0 1, .ptr b2 0 1, .ptr b3 0 1, .ptr b4 0 1] M (fun r M' => r = .bool (nfL step most f l s).2 ∧ J n (nfL step most f l s).1 M' ∧ Chg oo M M') := by
  intro f
  induction f with
  | zero =>
    intro n l s M hlf hm1 hl hJ s1 s2 s3 s4
    refine AC.body (fn := Tryz.f86) Tryz.func86 rfl rfl (by simp [Tryz.f86]) fun hcl => ?_
    simp only [Tryz.f86]
    have hoo := cb.box _ s M hJ
    have hll : l.length = many := by omega
    have hnz : nilfz l = .fz 1 (ints l) := by unfold nilfz; rw [if_neg (by omega)]; rfl
    rw [hnz]
    try (simp (decide := true) only [ax, tabs, s0, Int.reduceToNat, s1.at_, s2.at_, s3.at_, s4.at_, ints_length, hll])
    repeat (first
      | refine AW.seq ?_
      | refine AW.blockS ?_
      | ((first | refine AW.skip ?_ | refine AW.exit ?_ | refine AW.opsN rfl ?_ | refine AW.ret ?_); try (simp (decide := true) only [ax, tabs, s0, Int.reduceToNat, s1.at_, s2.at_, s3.at_, s4.at_, ints_length, hll]))
      | (refine AW.condT ?_ ?_; (focus (simp (decide := true) only [ax, tabs, s0, Int.reduceToNat, s1.at_, s2.at_, s3.at_, s4.at_, ints_length, hll]; done)))
      | (refine AW.condF ?_ ?_; (focus (simp (decide := true) only [ax, tabs, s0, Int.reduceToNat, s1.at_, s2.at_, s3.at_, s4.at_, ints_length, hll]; done))))
    refine (cb.call n s M l hJ ⟨hll, hl⟩).mono ?_
    rintro _ M' ⟨rfl, hJ', hC⟩
    try (simp (decide := true) only [ax, tabs, s0, Int.reduceToNat])
    repeat (first
      | refine AW.seq ?_
      | refine AW.blockS ?_
      | ((first | refine AW.skip ?_ | refine AW.exit ?_ | refine AW.opsN rfl ?_ | refine AW.ret ?_); try (simp (decide := true) only [ax, tabs, s0, Int.reduceToNat]))
      | (refine AW.condT ?_ ?_; (focus (simp (decide := true) only [ax, tabs, s0, Int.reduceToNat]; done)))
      | (refine AW.condF ?_ ?_; (focus (simp (decide := true) only [ax, tabs, s0, Int.reduceToNat]; done))))
    have := hC.len
    refine leftN (.inr rfl) (by omega) (by simp (decide := true) only [ax, tabs, s0, Int.reduceToNat]; rfl) rfl (.of_scal rfl) ⟨rfl, hJ', hC⟩
  | succ f ih =>
      intro n l s M hlf hm1 hl hJ s1 s2 s3 s4
      refine AC.body (fn := Tryz.f86) Tryz.func86 rfl rfl (by simp [Tryz.f86]) fun hcl => ?_
      simp only [Tryz.f86]
      have hoo := cb.box _ s M hJ
      have hne : ¬ ((l.length : Int) = many) := by omega
      have hlen : ∀ (d : TD) (N : AV → List AO → Prop), True := fun _ _ => trivial
      rcases Nat.eq_zero_or_pos l.length with h0 | h0
      · have hl0 : l = [] := List.eq_nil_of_length_eq_zero h0
        subst hl0
        have hnz : nilfz ([] : List Int) = .nils := rfl
        rw [hnz]
        have e0 : decide ((0 : Int) = (many : Int)) = false := decide_eq_false (by omega)
        obtain ⟨l, hle⟩ : ∃ l : List Int, l = [] := ⟨[], rfl⟩
        rw [← hle]
        have hlf2 : 1 ≤ leastF l := by rw [hle]; decide
        have hlf3 : leastF l ≤ most + 1 := by rw [hle]; show (1 : Int) ≤ _; omega
        have hlf4 : iv 1 = iv (leastF l) := by rw [hle]; rfl
        have hl0' : ints l = [] := by rw [hle]; rfl
        have hl' : ∀ x ∈ l, 1 ≤ x ∧ x ≤ most := by rw [hle]; exact hl
        have hlf' : l.length + (f + 1) = many := by rw [hle]; exact hlf
        try (simp (decide := true) only [ax, tabs, s0, Int.reduceToNat, s1.at_, s2.at_, s3.at_, s4.at_, e0])
        repeat (first
          | refine AW.seq ?_
          | refine AW.blockS ?_
          | ((first | refine AW.skip ?_ | refine AW.exit ?_ | refine AW.opsN rfl ?_ | refine AW.ret ?_); try (simp (decide := true) only [ax, tabs, s0, Int.reduceToNat, s1.at_, s2.at_, s3.at_, s4.at_, e0]))
          | (refine AW.condT ?_ ?_; (focus (simp (decide := true) only [ax, tabs, s0, Int.reduceToNat, s1.at_, s2.at_, s3.at_, s4.at_, e0]; done)))
          | (refine AW.condF ?_ ?_; (focus (simp (decide := true) only [ax, tabs, s0, Int.reduceToNat, s1.at_, s2.at_, s3.at_, s4.at_, e0]; done))))
        have hlf1 : leastF l = leastF l := rfl
        refine AW.gen fun T0_ hT0_ => ?_
        have z0_0 := congrFun hT0_ 0
        have z0_3 := congrFun hT0_ 3
        have z0_4 := congrFun hT0_ 4
        have z0_8 := congrFun hT0_ 8
        try (simp (decide := true) only [ax, tabs, s0, Int.reduceToNat] at z0_0 z0_3 z0_4 z0_8)
        clear hT0_
        refine AW.blockP (fun T M' => ∃ s', nfL step most (f + 1) l s = (s', true) ∧ J n s' M' ∧ Chg oo M M')
          (AW.loop (fun d T M' => ∃ (x : Int) (s' : σ), d = (most + 1 - x).toNat ∧ 1 ≤ x ∧ x ≤ most + 1 ∧ nfGo (fun x s => nfL step most f (l ++ [x]) s) d x s' = nfL step most (f + 1) l s ∧ T 8 = iv x ∧ J (d * most.toNat ^ f + n) s' M' ∧ Chg oo M M' ∧ AgT [0, 3, 4] T T0_) (most + 1 - leastF l).toNat
            ⟨leastF l, s, rfl, hlf2, hlf3, rfl, by rw [z0_8]; exact hlf4, cb.mono _ _ _ _ hJ (Nat.add_le_add_right (by rw [Nat.pow_succ, Nat.mul_comm]; exact Nat.mul_le_mul_left _ (by omega)) _), Chg.refl _ _, AgT_refl _ _⟩ ?_) ?_
        · rintro d T M' ⟨x, s', rfl, hx1, hx2, hR, t8, hJ', hC, fr⟩
          have y0_0 := (fr 0 (by decide)).trans z0_0
          have y0_3 := (fr 3 (by decide)).trans z0_3
          have y0_4 := (fr 4 (by decide)).trans z0_4
          have k1 := (hC.stay s1).at_
          have k2 := (hC.stay s2).at_
          have k3 := (hC.stay s3).at_
          have k4 := (hC.stay s4).at_
          have hoo' := cb.box _ s' M' hJ'
          have u4 := fun X => (hC.stay s4).junk hoo' X
          try (simp (decide := true) only [ax, tabs, s0, Int.reduceToNat, y0_0, y0_3, y0_4, t8, k1, k2, k3, k4])
          repeat (first
            | refine AW.seq ?_
            | refine AW.blockS ?_
            | ((first | refine AW.skip ?_ | refine AW.exit ?_ | refine AW.opsN rfl ?_ | refine AW.ret ?_); try (simp (decide := true) only [ax, tabs, s0, Int.reduceToNat, y0_0, y0_3, y0_4, t8, k1, k2, k3, k4]))
            | (refine AW.condT ?_ ?_; (focus (simp (decide := true) only [ax, tabs, s0, Int.reduceToNat, y0_0, y0_3, y0_4, t8, k1, k2, k3, k4]; done)))
            | (refine AW.condF ?_ ?_; (focus (simp (decide := true) only [ax, tabs, s0, Int.reduceToNat, y0_0, y0_3, y0_4, t8, k1, k2, k3, k4]; done))))
          repeat refine AW.seq ?_
          refine AW.cond (decide (x ≤ most)) (by simp (decide := true) only [ax, tabs, s0, Int.reduceToNat]) (fun h => ?_) (fun h => ?_)
          · have hx3 : x ≤ most := of_decide_eq_true h
            try (simp (decide := true) only [ax, tabs, s0, Int.reduceToNat])
            repeat (first
              | refine AW.seq ?_
              | refine AW.blockS ?_
              | ((first | refine AW.skip ?_ | refine AW.exit ?_ | refine AW.opsN rfl ?_ | refine AW.ret ?_); try (simp (decide := true) only [ax, tabs, s0, Int.reduceToNat]))
              | (refine AW.condT ?_ ?_; (focus (simp (decide := true) only [ax, tabs, s0, Int.reduceToNat]; done)))
              | (refine AW.condF ?_ ?_; (focus (simp (decide := true) only [ax, tabs, s0, Int.reduceToNat]; done))))
            repeat refine AW.seq ?_
            refine AW.draw Emix [3, 2, 1, 2, 2, 1] [0, 0, 2, 0, 8, 30, 63, 127] (by kernel_rfl) ?_
            simp (decide := true) only [ax, axd, tabs, s0, Int.reduceToNat, y0_0, y0_3, y0_4, t8, k1, k2, k3, k4, u4]
            refine ⟨_, _, CloneInt_nil _, ?_⟩
            have hroom : (l.length + 1) * 8 ≤ 140737488355328 := by omega
            simp (decide := true) only [ax, axd, tabs, s0, Int.reduceToNat, y0_0, y0_3, y0_4, t8, k1, k2, k3, k4, u4, ints_length, hroom, hl0']
            have hok : ∀ y ∈ l ++ [x], 1 ≤ y ∧ y ≤ most := by
              intro y hy
              rcases List.mem_append.1 hy with hy | hy
              · exact hl' y hy
              · simp at hy; subst hy; exact ⟨hx1, hx3⟩
            have hd := Chg.junk hoo' [AO.dead]
            have hnf : nilfz (l ++ [x]) = .fz 1 (ints (l ++ [x])) := by unfold nilfz; rw [if_neg (by simp)]; rfl
            have hx4 : (most + 1 - x).toNat = (most + 1 - (x + 1)).toNat + 1 := by omega
            have hJ2' : J (most.toNat ^ f + ((most + 1 - (x + 1)).toNat * most.toNat ^ f + n)) s' M' := by
              rw [hx4, Nat.succ_mul] at hJ'
              exact cb.mono _ _ _ _ hJ' (by omega)
            have key : AC E 86 [.sl 1 M'.length 0 (l ++ [x]).length (l ++ [x]).length, .ptr b1 0 1, .ptr b2 0 1, .ptr b3 0 1, .ptr b4 0 1] (M' ++ [.mem (ints (l ++ [x]))])
                (fun r M'' => r = .bool (nfL step most f (l ++ [x]) s').2 ∧ J ((most + 1 - (x + 1)).toNat * most.toNat ^ f + n) (nfL step most f (l ++ [x]) s').1 M'' ∧ Chg oo M M'') := by
              refine AC.frz (xs := ints (l ++ [x])) (cs := ints (l ++ [x])) (by simp) (by rw [ints_length]) (by rw [ints_length]) (Els.ints 0 _).size (flat_ints _) ?_
              rw [set_end, ← hnf]
              refine (ih _ (l ++ [x]) s' (M' ++ [.dead]) (by simp; omega) hm1 hok (cb.junk _ _ _ _ hJ2') (hd.stay (hC.stay s1)) (hd.stay (hC.stay s2)) (hd.stay (hC.stay s3)) (hd.stay (hC.stay s4))).mono ?_
              rintro r M'' ⟨h1, h2, h3⟩
              exact ⟨h1, h2, (hC.trans hd).trans h3⟩
            rw [List.length_append, ints_append, List.length_singleton] at key
            have w2 : IntKind.i64.wrap (x + 1) = x + 1 := wrap_in (by omega) (by omega)
            rw [hx4, nfGo] at hR
            refine AC.mono (M := M' ++ [.mem [.int .i64 x]]) (args := [.sl 1 M'.length 0 1 1, .ptr b1 0 1, .ptr b2 0 1, .ptr b3 0 1, .ptr b4 0 1]) (Q := fun r M'' => r = .bool (nfL step most f (l ++ [x]) s').2 ∧ J ((most + 1 - (x + 1)).toNat * most.toNat ^ f + n) (nfL step most f (l ++ [x]) s').1 M'' ∧ Chg oo M M'') (by subst hle; exact key) ?_
            rintro _ M'' ⟨rfl, hJ2, hC2⟩
            cases hb : (nfL step most f (l ++ [x]) s').2 with
            | false =>
              rw [if_neg (by rw [hb]; simp)] at hR
              try (simp (decide := true) only [ax, tabs, s0, Int.reduceToNat])
              repeat (first
                | refine AW.seq ?_
                | refine AW.blockS ?_
                | ((first | refine AW.skip ?_ | refine AW.exit ?_ | refine AW.opsN rfl ?_ | refine AW.ret ?_); try (simp (decide := true) only [ax, tabs, s0, Int.reduceToNat]))
                | (refine AW.condT ?_ ?_; (focus (simp (decide := true) only [ax, tabs, s0, Int.reduceToNat]; done)))
                | (refine AW.condF ?_ ?_; (focus (simp (decide := true) only [ax, tabs, s0, Int.reduceToNat]; done))))
              have := hC2.len
              refine leftN (.inr rfl) (by omega) (by simp (decide := true) only [ax, tabs, s0, Int.reduceToNat]; rfl) rfl (.of_scal rfl) ⟨by rw [← hR]; rfl, by rw [← hR]; exact cb.mono _ _ _ _ hJ2 (by omega), hC2⟩
            | true =>
              rw [if_pos (by rw [hb])] at hR
              try (simp (decide := true) only [ax, tabs, s0, Int.reduceToNat, y0_0, y0_3, y0_4, t8, w2])
              repeat (first
                | refine AW.seq ?_
                | refine AW.blockS ?_
                | ((first | refine AW.skip ?_ | refine AW.exit ?_ | refine AW.opsN rfl ?_ | refine AW.ret ?_); try (simp (decide := true) only [ax, tabs, s0, Int.reduceToNat, y0_0, y0_3, y0_4, t8, w2]))
                | (refine AW.condT ?_ ?_; (focus (simp (decide := true) only [ax, tabs, s0, Int.reduceToNat, y0_0, y0_3, y0_4, t8, w2]; done)))
                | (refine AW.condF ?_ ?_; (focus (simp (decide := true) only [ax, tabs, s0, Int.reduceToNat, y0_0, y0_3, y0_4, t8, w2]; done))))
              exact ⟨(most + 1 - (x + 1)).toNat, by omega, x + 1, _, rfl, by omega, by omega, hR, rfl, hJ2, hC2, by simp (decide := true) only [ax, tabs, s0, Int.reduceToNat, AgT_cons, AgT_nil, and_true, y0_0, y0_3, y0_4, z0_0, z0_3, z0_4, z0_8]⟩
          · have hx3 : ¬ x ≤ most := of_decide_eq_false h
            have : x = most + 1 := by omega
            subst this
            try (simp (decide := true) only [ax, tabs, s0, Int.reduceToNat])
            repeat (first
              | refine AW.seq ?_
              | refine AW.blockS ?_
              | ((first | refine AW.skip ?_ | refine AW.exit ?_ | refine AW.opsN rfl ?_ | refine AW.ret ?_); try (simp (decide := true) only [ax, tabs, s0, Int.reduceToNat]))
              | (refine AW.condT ?_ ?_; (focus (simp (decide := true) only [ax, tabs, s0, Int.reduceToNat]; done)))
              | (refine AW.condF ?_ ?_; (focus (simp (decide := true) only [ax, tabs, s0, Int.reduceToNat]; done))))
            refine ⟨s', ?_, cb.mono _ _ _ _ hJ' (by omega), hC⟩
            rw [← hR, show (most + 1 - (most + 1)).toNat = 0 from by omega]; rfl
        · rintro T M' ⟨s', hR, hJ', hC⟩
          rw [hR]
          try (simp (decide := true) only [ax, tabs, s0, Int.reduceToNat])
          repeat (first
            | refine AW.seq ?_
            | refine AW.blockS ?_
            | ((first | refine AW.skip ?_ | refine AW.exit ?_ | refine AW.opsN rfl ?_ | refine AW.ret ?_); try (simp (decide := true) only [ax, tabs, s0, Int.reduceToNat]))
            | (refine AW.condT ?_ ?_; (focus (simp (decide := true) only [ax, tabs, s0, Int.reduceToNat]; done)))
            | (refine AW.condF ?_ ?_; (focus (simp (decide := true) only [ax, tabs, s0, Int.reduceToNat]; done))))
          have := hC.len
          refine leftN (.inr rfl) (by omega) (by simp (decide := true) only [ax, tabs, s0, Int.reduceToNat]; rfl) rfl (.of_scal rfl) ⟨rfl, hJ', hC⟩
      · have hnz : nilfz l = .fz 1 (ints l) := by unfold nilfz; rw [if_neg (by omega)]; rfl
        rw [hnz]
        have e0 : decide ((l.length : Int) = (many : Int)) = false := decide_eq_false (by omega)
        have e1 : decide ((l.length : Int) > 0) = true := decide_eq_true (by omega)
        have w1 : IntKind.i64.wrap ((l.length : Int) - 1) = ((l.length - 1 : Nat) : Int) := by rw [wrap_in (by omega) (by omega)]; omega
        have hg := ints_get (xs := l) (i := l.length - 1) (by omega)
        have l1 : l.length - 1 < l.length := by omega
        have hla : leastF l = l.getD (l.length - 1) 0 := by unfold leastF; rw [if_pos h0]
        obtain ⟨hb1, hb2⟩ := getD_all hl l1
        have hlf2 : 1 ≤ leastF l := by rw [hla]; exact hb1
        have hlf3 : leastF l ≤ most + 1 := by rw [hla]; omega
        have hlf4 : iv (l.getD (l.length - 1) 0) = iv (leastF l) := by rw [hla]
        have hl0' : True := trivial
        have hl' := hl
        have hlf' := hlf
        try (simp (decide := true) only [ax, tabs, s0, Int.reduceToNat, s1.at_, s2.at_, s3.at_, s4.at_, ints_length, e0, e1, w1, hg, l1])
        repeat (first
          | refine AW.seq ?_
          | refine AW.blockS ?_
          | ((first | refine AW.skip ?_ | refine AW.exit ?_ | refine AW.opsN rfl ?_ | refine AW.ret ?_); try (simp (decide := true) only [ax, tabs, s0, Int.reduceToNat, s1.at_, s2.at_, s3.at_, s4.at_, ints_length, e0, e1, w1, hg, l1]))
          | (refine AW.condT ?_ ?_; (focus (simp (decide := true) only [ax, tabs, s0, Int.reduceToNat, s1.at_, s2.at_, s3.at_, s4.at_, ints_length, e0, e1, w1, hg, l1]; done)))
          | (refine AW.condF ?_ ?_; (focus (simp (decide := true) only [ax, tabs, s0, Int.reduceToNat, s1.at_, s2.at_, s3.at_, s4.at_, ints_length, e0, e1, w1, hg, l1]; done))))
        have hlf1 : leastF l = leastF l := rfl
        refine AW.gen fun T0_ hT0_ => ?_
        have z0_0 := congrFun hT0_ 0
        have z0_3 := congrFun hT0_ 3
        have z0_4 := congrFun hT0_ 4
        have z0_8 := congrFun hT0_ 8
        try (simp (decide := true) only [ax, tabs, s0, Int.reduceToNat] at z0_0 z0_3 z0_4 z0_8)
        clear hT0_
        refine AW.blockP (fun T M' => ∃ s', nfL step most (f + 1) l s = (s', true) ∧ J n s' M' ∧ Chg oo M M')
          (AW.loop (fun d T M' => ∃ (x : Int) (s' : σ), d = (most + 1 - x).toNat ∧ 1 ≤ x ∧ x ≤ most + 1 ∧ nfGo (fun x s => nfL step most f (l ++ [x]) s) d x s' = nfL step most (f + 1) l s ∧ T 8 = iv x ∧ J (d * most.toNat ^ f + n) s' M' ∧ Chg oo M M' ∧ AgT [0, 3, 4] T T0_) (most + 1 - leastF l).toNat
            ⟨leastF l, s, rfl, hlf2, hlf3, rfl, by rw [z0_8]; exact hlf4, cb.mono _ _ _ _ hJ (Nat.add_le_add_right (by rw [Nat.pow_succ, Nat.mul_comm]; exact Nat.mul_le_mul_left _ (by omega)) _), Chg.refl _ _, AgT_refl _ _⟩ ?_) ?_
        · rintro d T M' ⟨x, s', rfl, hx1, hx2, hR, t8, hJ', hC, fr⟩
          have y0_0 := (fr 0 (by decide)).trans z0_0
          have y0_3 := (fr 3 (by decide)).trans z0_3
          have y0_4 := (fr 4 (by decide)).trans z0_4
          have k1 := (hC.stay s1).at_
          have k2 := (hC.stay s2).at_
          have k3 := (hC.stay s3).at_
          have k4 := (hC.stay s4).at_
          have hoo' := cb.box _ s' M' hJ'
          have u4 := fun X => (hC.stay s4).junk hoo' X
          try (simp (decide := true) only [ax, tabs, s0, Int.reduceToNat, y0_0, y0_3, y0_4, t8, k1, k2, k3, k4])
          repeat (first
            | refine AW.seq ?_
            | refine AW.blockS ?_
            | ((first | refine AW.skip ?_ | refine AW.exit ?_ | refine AW.opsN rfl ?_ | refine AW.ret ?_); try (simp (decide := true) only [ax, tabs, s0, Int.reduceToNat, y0_0, y0_3, y0_4, t8, k1, k2, k3, k4]))
            | (refine AW.condT ?_ ?_; (focus (simp (decide := true) only [ax, tabs, s0, Int.reduceToNat, y0_0, y0_3, y0_4, t8, k1, k2, k3, k4]; done)))
            | (refine AW.condF ?_ ?_; (focus (simp (decide := true) only [ax, tabs, s0, Int.reduceToNat, y0_0, y0_3, y0_4, t8, k1, k2, k3, k4]; done))))
          repeat refine AW.seq ?_
          refine AW.cond (decide (x ≤ most)) (by simp (decide := true) only [ax, tabs, s0, Int.reduceToNat]) (fun h => ?_) (fun h => ?_)
          · have hx3 : x ≤ most := of_decide_eq_true h
            try (simp (decide := true) only [ax, tabs, s0, Int.reduceToNat])
            repeat (first
              | refine AW.seq ?_
              | refine AW.blockS ?_
              | ((first | refine AW.skip ?_ | refine AW.exit ?_ | refine AW.opsN rfl ?_ | refine AW.ret ?_); try (simp (decide := true) only [ax, tabs, s0, Int.reduceToNat]))
              | (refine AW.condT ?_ ?_; (focus (simp (decide := true) only [ax, tabs, s0, Int.reduceToNat]; done)))
              | (refine AW.condF ?_ ?_; (focus (simp (decide := true) only [ax, tabs, s0, Int.reduceToNat]; done))))
            repeat refine AW.seq ?_
            refine AW.draw Emix [3, 2, 1, 2, 2, 1] [0, 0, 2, 0, 8, 30, 63, 127] (by kernel_rfl) ?_
            simp (decide := true) only [ax, axd, tabs, s0, Int.reduceToNat, y0_0, y0_3, y0_4, t8, k1, k2, k3, k4, u4]
            refine ⟨_, _, CloneInt_sl l _ (by omega) (by intro h; rw [h] at h0; cases h0), ?_⟩
            have hroom : (l.length + 1) * 8 ≤ 140737488355328 := by omega
            simp (decide := true) only [ax, axd, tabs, s0, Int.reduceToNat, y0_0, y0_3, y0_4, t8, k1, k2, k3, k4, u4, ints_length, hroom, hl0']
            have hok : ∀ y ∈ l ++ [x], 1 ≤ y ∧ y ≤ most := by
              intro y hy
              rcases List.mem_append.1 hy with hy | hy
              · exact hl' y hy
              · simp at hy; subst hy; exact ⟨hx1, hx3⟩
            have hd := Chg.junk hoo' [AO.dead]
            have hnf : nilfz (l ++ [x]) = .fz 1 (ints (l ++ [x])) := by unfold nilfz; rw [if_neg (by simp)]; rfl
            have hx4 : (most + 1 - x).toNat = (most + 1 - (x + 1)).toNat + 1 := by omega
            have hJ2' : J (most.toNat ^ f + ((most + 1 - (x + 1)).toNat * most.toNat ^ f + n)) s' M' := by
              rw [hx4, Nat.succ_mul] at hJ'
              exact cb.mono _ _ _ _ hJ' (by omega)
            have key : AC E 86 [.sl 1 M'.length 0 (l ++ [x]).length (l ++ [x]).length, .ptr b1 0 1, .ptr b2 0 1, .ptr b3 0 1, .ptr b4 0 1] (M' ++ [.mem (ints (l ++ [x]))])
                (fun r M'' => r = .bool (nfL step most f (l ++ [x]) s').2 ∧ J ((most + 1 - (x + 1)).toNat * most.toNat ^ f + n) (nfL step most f (l ++ [x]) s').1 M'' ∧ Chg oo M M'') := by
              refine AC.frz (xs := ints (l ++ [x])) (cs := ints (l ++ [x])) (by simp) (by rw [ints_length]) (by rw [ints_length]) (Els.ints 0 _).size (flat_ints _) ?_
              rw [set_end, ← hnf]
              refine (ih _ (l ++ [x]) s' (M' ++ [.dead]) (by simp; omega) hm1 hok (cb.junk _ _ _ _ hJ2') (hd.stay (hC.stay s1)) (hd.stay (hC.stay s2)) (hd.stay (hC.stay s3)) (hd.stay (hC.stay s4))).mono ?_
              rintro r M'' ⟨h1, h2, h3⟩
              exact ⟨h1, h2, (hC.trans hd).trans h3⟩
            rw [List.length_append, ints_append, List.length_singleton] at key
            have w2 : IntKind.i64.wrap (x + 1) = x + 1 := wrap_in (by omega) (by omega)
            rw [hx4, nfGo] at hR
            refine key.mono ?_
            rintro _ M'' ⟨rfl, hJ2, hC2⟩
            cases hb : (nfL step most f (l ++ [x]) s').2 with
            | false =>
              rw [if_neg (by rw [hb]; simp)] at hR
              try (simp (decide := true) only [ax, tabs, s0, Int.reduceToNat])
              repeat (first
                | refine AW.seq ?_
                | refine AW.blockS ?_
                | ((first | refine AW.skip ?_ | refine AW.exit ?_ | refine AW.opsN rfl ?_ | refine AW.ret ?_); try (simp (decide := true) only [ax, tabs, s0, Int.reduceToNat]))
                | (refine AW.condT ?_ ?_; (focus (simp (decide := true) only [ax, tabs, s0, Int.reduceToNat]; done)))
                | (refine AW.condF ?_ ?_; (focus (simp (decide := true) only [ax, tabs, s0, Int.reduceToNat]; done))))
              have := hC2.len
              refine leftN (.inr rfl) (by omega) (by simp (decide := true) only [ax, tabs, s0, Int.reduceToNat]; rfl) rfl (.of_scal rfl) ⟨by rw [← hR]; rfl, by rw [← hR]; exact cb.mono _ _ _ _ hJ2 (by omega), hC2⟩
            | true =>
              rw [if_pos (by rw [hb])] at hR
              try (simp (decide := true) only [ax, tabs, s0, Int.reduceToNat, y0_0, y0_3, y0_4, t8, w2])
              repeat (first
                | refine AW.seq ?_
                | refine AW.blockS ?_
                | ((first | refine AW.skip ?_ | refine AW.exit ?_ | refine AW.opsN rfl ?_ | refine AW.ret ?_); try (simp (decide := true) only [ax, tabs, s0, Int.reduceToNat, y0_0, y0_3, y0_4, t8, w2]))
                | (refine AW.condT ?_ ?_; (focus (simp (decide := true) only [ax, tabs, s0, Int.reduceToNat, y0_0, y0_3, y0_4, t8, w2]; done)))
                | (refine AW.condF ?_ ?_; (focus (simp (decide := true) only [ax, tabs, s0, Int.reduceToNat, y0_0, y0_3, y0_4, t8, w2]; done))))
              exact ⟨(most + 1 - (x + 1)).toNat, by omega, x + 1, _, rfl, by omega, by omega, hR, rfl, hJ2, hC2, by simp (decide := true) only [ax, tabs, s0, Int.reduceToNat, AgT_cons, AgT_nil, and_true, y0_0, y0_3, y0_4, z0_0, z0_3, z0_4, z0_8]⟩
          · have hx3 : ¬ x ≤ most := of_decide_eq_false h
            have : x = most + 1 := by omega
            subst this
            try (simp (decide := true) only [ax, tabs, s0, Int.reduceToNat])
            repeat (first
              | refine AW.seq ?_
              | refine AW.blockS ?_
              | ((first | refine AW.skip ?_ | refine AW.exit ?_ | refine AW.opsN rfl ?_ | refine AW.ret ?_); try (simp (decide := true) only [ax, tabs, s0, Int.reduceToNat]))
              | (refine AW.condT ?_ ?_; (focus (simp (decide := true) only [ax, tabs, s0, Int.reduceToNat]; done)))
              | (refine AW.condF ?_ ?_; (focus (simp (decide := true) only [ax, tabs, s0, Int.reduceToNat]; done))))
            refine ⟨s', ?_, cb.mono _ _ _ _ hJ' (by omega), hC⟩
            rw [← hR, show (most + 1 - (most + 1)).toNat = 0 from by omega]; rfl
        · rintro T M' ⟨s', hR, hJ', hC⟩
          rw [hR]
          try (simp (decide := true) only [ax, tabs, s0, Int.reduceToNat])
          repeat (first
            | refine AW.seq ?_
            | refine AW.blockS ?_
            | ((first | refine AW.skip ?_ | refine AW.exit ?_ | refine AW.opsN rfl ?_ | refine AW.ret ?_); try (simp (decide := true) only [ax, tabs, s0, Int.reduceToNat]))
            | (refine AW.condT ?_ ?_; (focus (simp (decide := true) only [ax, tabs, s0, Int.reduceToNat]; done)))
            | (refine AW.condF ?_ ?_; (focus (simp (decide := true) only [ax, tabs, s0, Int.reduceToNat]; done))))
          have := hC.len
          refine leftN (.inr rfl) (by omega) (by simp (decide := true) only [ax, tabs, s0, Int.reduceToNat]; rfl) rfl (.of_scal rfl) ⟨rfl, hJ', hC⟩
end Go.Ax
