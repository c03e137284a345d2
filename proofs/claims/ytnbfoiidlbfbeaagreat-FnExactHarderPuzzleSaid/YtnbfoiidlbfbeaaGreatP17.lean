/- The reference's hidden times that fit clues. -/
import Derived.Test.YtnbfoiidlbfbeaaGreatP16
set_option linter.unusedVariables false
set_option linter.unusedSimpArgs false
namespace Go.Ax
open Go.Proofs

theorem nfAll_len (most : Int) : ∀ (f : Nat) (l : List Int), 1 ≤ leastF l → (∀ x ∈ l, 1 ≤ x) → (nfAll most f l).length ≤ most.toNat ^ f
  | 0, l, _, _ => by simp [nfAll]
  | f + 1, l, hl, ha => by
    have key : ∀ (n : Nat) (x : Int), 1 ≤ x → (nfGoL (fun x => nfAll most f (l ++ [x])) n x).length ≤ n * most.toNat ^ f := by
      intro n
      induction n with
      | zero => intro x _; simp [nfGoL]
      | succ n ih =>
        intro x hx
        have h1 := nfAll_len most f (l ++ [x]) (by unfold leastF; rw [if_pos (by simp)]; simp [List.getD_eq_getElem?_getD]; exact hx) (fun y hy => by
          rcases List.mem_append.1 hy with hy | hy
          · exact ha y hy
          · simp at hy; omega)
        have h2 := ih (x + 1) (by omega)
        rw [nfGoL, List.length_append, Nat.succ_mul]; omega
    have := key (most + 1 - leastF l).toNat (leastF l) hl
    rw [nfAll, Nat.pow_succ, Nat.mul_comm]
    exact Nat.le_trans this (Nat.mul_le_mul_right _ (by omega))
theorem l1Own_nil (M : List AO) : AC E 50 [.nils] M (fun r M' => r = .sl 1 M.length 0 0 0 ∧ M' = M ++ [.mem []]) := by
  refine AC.body (fn := Tryz.f50) Tryz.func50 rfl rfl (by simp [Tryz.f50]) fun hcl => ?_
  simp only [Tryz.f50]
  try (simp (decide := true) only [ax, tabs, s0, Int.reduceToNat])
  repeat (first
    | refine AW.seq ?_
    | refine AW.blockS ?_
    | ((first | refine AW.skip ?_ | refine AW.exit ?_ | refine AW.opsN rfl ?_ | refine AW.ret ?_); try (simp (decide := true) only [ax, tabs, s0, Int.reduceToNat]))
    | (refine AW.condT ?_ ?_; (focus (simp (decide := true) only [ax, tabs, s0, Int.reduceToNat]; done)))
    | (refine AW.condF ?_ ?_; (focus (simp (decide := true) only [ax, tabs, s0, Int.reduceToNat]; done))))
  refine leftN (.inr rfl) (by simp) (by simp (decide := true) only [ax, tabs, s0, Int.reduceToNat]; rfl) ?_ (.sl _ _ _ _ _ (by simp)) ⟨rfl, rfl⟩
  try (simp (decide := true) only [ax, tabs, s0, Int.reduceToNat])
theorem l1Own_nilfz (l : List Int) (M : List AO) (hl : l.length ≤ 2000000) : AC E 50 [nilfz l] M (fun r M' => r = .sl 1 M.length 0 l.length l.length ∧ M' = M ++ [.mem (ints l)]) := by
  unfold nilfz
  split
  · rename_i h
    obtain rfl : l = [] := List.eq_nil_of_length_eq_zero h
    exact l1Own_nil M
  · exact l1Own_row l M hl
theorem fitAll_false {cs : List Clu} {l : List Int} {c : Clu} (hc : c ∈ cs) (h : fitsF c l = false) : fitAll cs l = false := by
  unfold fitAll
  have : (cs.any fun c => !fitsF c l) = true := by rw [List.any_eq_true]; exact ⟨c, hc, by rw [h]; rfl⟩
  rw [this]; rfl
theorem fitAll_true {cs : List Clu} {l : List Int} (h : ∀ c ∈ cs, fitsF c l = true) : fitAll cs l = true := by
  unfold fitAll
  have : (cs.any fun c => !fitsF c l) = false := by rw [List.any_eq_false]; intro c hc; rw [h c hc]; simp
  rw [this]; rfl
/-- At the leaves. -/
theorem pzLook0_ok (p : Nat) (hp : 1 ≤ p ∧ p ≤ 4) (cs : List Clu) (hcs : cs.length ≤ 2000000) (hv : ∀ c ∈ cs, isClueF p c = true) (oo : Nat) (L : List (List Int)) (l : List Int) (M : List AO) (hlp : l.length = p) (hl : ∀ x ∈ l, 1 ≤ x ∧ x ≤ 6) (hO : OutB oo L M) (hL : L.length ≤ 100000) :
    AC E 103 [iv p, .fz 3 (cs.map cv), .fz 1 (ints l), .ptr oo 0 1] M (fun r M' => r = .tup [] ∧ OutB oo (if fitAll cs l = true then L ++ [l] else L) M' ∧ Chg oo M M') := by
  refine AC.body (fn := Tryz.f103) Tryz.func103 rfl rfl (by simp [Tryz.f103]) fun hcl => ?_
  simp only [Tryz.f103]
  have hoo := hO.lt
  try (simp (decide := true) only [ax, tabs, s0, Int.reduceToNat, ints_length, hlp, List.length_map])
  repeat (first
    | refine AW.seq ?_
    | refine AW.blockS ?_
    | ((first | refine AW.skip ?_ | refine AW.exit ?_ | refine AW.opsN rfl ?_ | refine AW.ret ?_); try (simp (decide := true) only [ax, tabs, s0, Int.reduceToNat, ints_length, hlp, List.length_map]))
    | (refine AW.condT ?_ ?_; (focus (simp (decide := true) only [ax, tabs, s0, Int.reduceToNat, ints_length, hlp, List.length_map]; done)))
    | (refine AW.condF ?_ ?_; (focus (simp (decide := true) only [ax, tabs, s0, Int.reduceToNat, ints_length, hlp, List.length_map]; done))))
  refine AW.gen fun T0_ hT0_ => ?_
  have z0_2 := congrFun hT0_ 2
  have z0_3 := congrFun hT0_ 3
  have z0_16 := congrFun hT0_ 16
  have z0_17 := congrFun hT0_ 17
  have z0_18 := congrFun hT0_ 18
  try (simp (decide := true) only [ax, tabs, s0, Int.reduceToNat, List.length_map] at z0_2 z0_3 z0_16 z0_17 z0_18)
  clear hT0_
  refine AW.range cs.length (fun i T M' => AgT [2, 3, 16, 17] T T0_ ∧ (∀ j (hj : j < cs.length), j < i → fitsF cs[j] l = true) ∧ M <+: M') (by omega) (by simp (decide := true) only [ax, tabs, s0, Int.reduceToNat, z0_2, z0_3, z0_16, z0_17, z0_18, List.length_map]) (by simp (decide := true) only [ax, tabs, s0, Int.reduceToNat, z0_2, z0_3, z0_16, z0_17, z0_18, List.length_map]) (by decide) (by decide) ⟨AgT_refl _ _, (by first | (simp (decide := true) only [ax, tabs, s0, Int.reduceToNat, z0_2, z0_3, z0_16, z0_17, z0_18, List.length_map]; done) | (simp (decide := true) only [ax, tabs, s0, Int.reduceToNat, z0_2, z0_3, z0_16, z0_17, z0_18, List.length_map]; rfl) | rfl | (intros; omega) | (simp (decide := true) only [ax, tabs, s0, Int.reduceToNat, z0_2, z0_3, z0_16, z0_17, z0_18, List.length_map]; exact Tell.nil _) | (simp (decide := true) only [ax, tabs, s0, Int.reduceToNat, z0_2, z0_3, z0_16, z0_17, z0_18, List.length_map]; exact Or.inl ⟨rfl, rfl⟩)), (by first | rfl | exact List.prefix_rfl | (simp; done) | (simp (decide := true) only [ax, tabs, s0, Int.reduceToNat, z0_2, z0_3, z0_16, z0_17, z0_18, List.length_map]; done))⟩ ?_ ?_ ?_
  · rintro i T M' r ⟨fr, h1, hM⟩
    try (simp (decide := true) only [ax, tabs, s0, Int.reduceToNat, AgT_upd, fr, hM, h1])
    repeat' (first | assumption | apply And.intro)
  · rintro i T M' hi ⟨fr, h1, J, rfl⟩ hI hN
    have y0_2 := (fr 2 (by decide)).trans z0_2
    have y0_3 := (fr 3 (by decide)).trans z0_3
    have y0_16 := (fr 16 (by decide)).trans z0_16
    have y0_17 := (fr 17 (by decide)).trans z0_17
    try simp only [List.append_assoc, List.cons_append, List.nil_append] at h1
    refine AW.block ?_
    try (simp (decide := true) only [ax, tabs, s0, Int.reduceToNat, AgT_cons, AgT_nil, and_true, y0_2, z0_2, y0_3, z0_3, y0_16, z0_16, y0_17, z0_17, h1, hI, hN, List.prefix_append, List.prefix_append_right_inj, List.cons_prefix_cons, List.nil_prefix, List.append_assoc, List.cons_append, List.nil_append, and_self, List.length_map, hi, cv_get hi, cv])
    repeat (first
      | refine AW.seq ?_
      | refine AW.blockS ?_
      | ((first | refine AW.skip ?_ | refine AW.exit ?_ | refine AW.opsN rfl ?_ | refine AW.ret ?_); try (simp (decide := true) only [ax, tabs, s0, Int.reduceToNat, AgT_cons, AgT_nil, and_true, y0_2, z0_2, y0_3, z0_3, y0_16, z0_16, y0_17, z0_17, h1, hI, hN, List.prefix_append, List.prefix_append_right_inj, List.cons_prefix_cons, List.nil_prefix, List.append_assoc, List.cons_append, List.nil_append, and_self, List.length_map, hi, cv_get hi, cv]))
      | (refine AW.condT ?_ ?_; (focus (simp (decide := true) only [ax, tabs, s0, Int.reduceToNat, AgT_cons, AgT_nil, and_true, y0_2, z0_2, y0_3, z0_3, y0_16, z0_16, y0_17, z0_17, h1, hI, hN, List.prefix_append, List.prefix_append_right_inj, List.cons_prefix_cons, List.nil_prefix, List.append_assoc, List.cons_append, List.nil_append, and_self, List.length_map, hi, cv_get hi, cv]; done)))
      | (refine AW.condF ?_ ?_; (focus (simp (decide := true) only [ax, tabs, s0, Int.reduceToNat, AgT_cons, AgT_nil, and_true, y0_2, z0_2, y0_3, z0_3, y0_16, z0_16, y0_17, z0_17, h1, hI, hN, List.prefix_append, List.prefix_append_right_inj, List.cons_prefix_cons, List.nil_prefix, List.append_assoc, List.cons_append, List.nil_append, and_self, List.length_map, hi, cv_get hi, cv]; done))))
    have hvi := hv cs[i] (List.getElem_mem hi)
    have hfe := pzFit_eq (ts := l) hvi (by rw [hlp])
    refine AC.det (pzFits_ok cs[i] l _ (by omega) (by omega) (fun t ht => by have := hl t ht; omega) (fun hk => by have := isClueF_A hvi; rw [hlp]; exact ⟨this.2.1, this.2.2.1 hk⟩)) ?_
    rw [hfe]
    try (simp (decide := true) only [ax, tabs, s0, Int.reduceToNat, AgT_cons, AgT_nil, and_true, y0_2, z0_2, y0_3, z0_3, y0_16, z0_16, y0_17, z0_17, h1, hI, hN, List.prefix_append, List.prefix_append_right_inj, List.cons_prefix_cons, List.nil_prefix, List.append_assoc, List.cons_append, List.nil_append, and_self])
    repeat (first
      | refine AW.seq ?_
      | refine AW.blockS ?_
      | ((first | refine AW.skip ?_ | refine AW.exit ?_ | refine AW.opsN rfl ?_ | refine AW.ret ?_); try (simp (decide := true) only [ax, tabs, s0, Int.reduceToNat, AgT_cons, AgT_nil, and_true, y0_2, z0_2, y0_3, z0_3, y0_16, z0_16, y0_17, z0_17, h1, hI, hN, List.prefix_append, List.prefix_append_right_inj, List.cons_prefix_cons, List.nil_prefix, List.append_assoc, List.cons_append, List.nil_append, and_self]))
      | (refine AW.condT ?_ ?_; (focus (simp (decide := true) only [ax, tabs, s0, Int.reduceToNat, AgT_cons, AgT_nil, and_true, y0_2, z0_2, y0_3, z0_3, y0_16, z0_16, y0_17, z0_17, h1, hI, hN, List.prefix_append, List.prefix_append_right_inj, List.cons_prefix_cons, List.nil_prefix, List.append_assoc, List.cons_append, List.nil_append, and_self]; done)))
      | (refine AW.condF ?_ ?_; (focus (simp (decide := true) only [ax, tabs, s0, Int.reduceToNat, AgT_cons, AgT_nil, and_true, y0_2, z0_2, y0_3, z0_3, y0_16, z0_16, y0_17, z0_17, h1, hI, hN, List.prefix_append, List.prefix_append_right_inj, List.cons_prefix_cons, List.nil_prefix, List.append_assoc, List.cons_append, List.nil_append, and_self]; done))))
    repeat refine AW.seq ?_
    refine AW.cond (!fitsF cs[i] l) (by simp (decide := true) only [ax, tabs, s0, Int.reduceToNat, AgT_cons, AgT_nil, and_true, y0_2, z0_2, y0_3, z0_3, y0_16, z0_16, y0_17, z0_17, h1, hI, hN, List.prefix_append, List.prefix_append_right_inj, List.cons_prefix_cons, List.nil_prefix, List.append_assoc, List.cons_append, List.nil_append, and_self]) (fun h => ?_) (fun h => ?_)
    · have h' : fitsF cs[i] l = false := by simpa using h
      rw [fitAll_false (List.getElem_mem hi) h']
      try (simp (decide := true) only [ax, tabs, s0, Int.reduceToNat, AgT_cons, AgT_nil, and_true, y0_2, z0_2, y0_3, z0_3, y0_16, z0_16, y0_17, z0_17, h1, hI, hN, List.prefix_append, List.prefix_append_right_inj, List.cons_prefix_cons, List.nil_prefix, List.append_assoc, List.cons_append, List.nil_append, and_self])
      repeat (first
        | refine AW.seq ?_
        | refine AW.blockS ?_
        | ((first | refine AW.skip ?_ | refine AW.exit ?_ | refine AW.opsN rfl ?_ | refine AW.ret ?_); try (simp (decide := true) only [ax, tabs, s0, Int.reduceToNat, AgT_cons, AgT_nil, and_true, y0_2, z0_2, y0_3, z0_3, y0_16, z0_16, y0_17, z0_17, h1, hI, hN, List.prefix_append, List.prefix_append_right_inj, List.cons_prefix_cons, List.nil_prefix, List.append_assoc, List.cons_append, List.nil_append, and_self]))
        | (refine AW.condT ?_ ?_; (focus (simp (decide := true) only [ax, tabs, s0, Int.reduceToNat, AgT_cons, AgT_nil, and_true, y0_2, z0_2, y0_3, z0_3, y0_16, z0_16, y0_17, z0_17, h1, hI, hN, List.prefix_append, List.prefix_append_right_inj, List.cons_prefix_cons, List.nil_prefix, List.append_assoc, List.cons_append, List.nil_append, and_self]; done)))
        | (refine AW.condF ?_ ?_; (focus (simp (decide := true) only [ax, tabs, s0, Int.reduceToNat, AgT_cons, AgT_nil, and_true, y0_2, z0_2, y0_3, z0_3, y0_16, z0_16, y0_17, z0_17, h1, hI, hN, List.prefix_append, List.prefix_append_right_inj, List.cons_prefix_cons, List.nil_prefix, List.append_assoc, List.cons_append, List.nil_append, and_self]; done))))
      refine leftN (.inr rfl) (by simp) (by simp (decide := true) only [ax, tabs, s0, Int.reduceToNat]; rfl) rfl (.of_scal rfl) ⟨rfl, ?_, Chg.junk hoo _⟩
      exact hO.junk _
    · have h' : fitsF cs[i] l = true := by simpa using h
      try (simp (decide := true) only [ax, tabs, s0, Int.reduceToNat, AgT_cons, AgT_nil, and_true, y0_2, z0_2, y0_3, z0_3, y0_16, z0_16, y0_17, z0_17, h1, hI, hN, List.prefix_append, List.prefix_append_right_inj, List.cons_prefix_cons, List.nil_prefix, List.append_assoc, List.cons_append, List.nil_append, and_self])
      repeat (first
        | refine AW.seq ?_
        | refine AW.blockS ?_
        | ((first | refine AW.skip ?_ | refine AW.exit ?_ | refine AW.opsN rfl ?_ | refine AW.ret ?_); try (simp (decide := true) only [ax, tabs, s0, Int.reduceToNat, AgT_cons, AgT_nil, and_true, y0_2, z0_2, y0_3, z0_3, y0_16, z0_16, y0_17, z0_17, h1, hI, hN, List.prefix_append, List.prefix_append_right_inj, List.cons_prefix_cons, List.nil_prefix, List.append_assoc, List.cons_append, List.nil_append, and_self]))
        | (refine AW.condT ?_ ?_; (focus (simp (decide := true) only [ax, tabs, s0, Int.reduceToNat, AgT_cons, AgT_nil, and_true, y0_2, z0_2, y0_3, z0_3, y0_16, z0_16, y0_17, z0_17, h1, hI, hN, List.prefix_append, List.prefix_append_right_inj, List.cons_prefix_cons, List.nil_prefix, List.append_assoc, List.cons_append, List.nil_append, and_self]; done)))
        | (refine AW.condF ?_ ?_; (focus (simp (decide := true) only [ax, tabs, s0, Int.reduceToNat, AgT_cons, AgT_nil, and_true, y0_2, z0_2, y0_3, z0_3, y0_16, z0_16, y0_17, z0_17, h1, hI, hN, List.prefix_append, List.prefix_append_right_inj, List.cons_prefix_cons, List.nil_prefix, List.append_assoc, List.cons_append, List.nil_append, and_self]; done))))
      intro j hj hlt
      rcases Nat.lt_or_ge j i with h2 | h2
      · exact h1 j hj h2
      · have : j = i := by omega
        subst this; exact h'
  · rintro T M' ⟨fr, h1, J, rfl⟩
    have y0_2 := (fr 2 (by decide)).trans z0_2
    have y0_3 := (fr 3 (by decide)).trans z0_3
    have y0_16 := (fr 16 (by decide)).trans z0_16
    have y0_17 := (fr 17 (by decide)).trans z0_17
    try simp only [List.append_assoc, List.cons_append, List.nil_append] at h1
    have hf : fitAll cs l = true := fitAll_true fun c hc => by
      obtain ⟨j, hj, rfl⟩ := List.getElem_of_mem hc
      exact h1 j hj hj
    rw [hf]
    have hO0 := hO
    rcases hO with ⟨rfl, hn⟩ | ⟨ot, hne, hrow, hr⟩
    · have u2 := fun X => app_obj hn X
      repeat refine AW.seq ?_
      refine AW.lits [2, 2, 0, 0, 2, 2] ?_
      simp (decide := true) only [ax, axd, tabs, s0, Int.reduceToNat, y0_2, y0_3, y0_16, y0_17, u2]
      try (simp (decide := true) only [ax, tabs, s0, Int.reduceToNat])
      repeat (first
        | refine AW.seq ?_
        | refine AW.blockS ?_
        | ((first | refine AW.skip ?_ | refine AW.exit ?_ | refine AW.opsN rfl ?_ | refine AW.ret ?_); try (simp (decide := true) only [ax, tabs, s0, Int.reduceToNat]))
        | (refine AW.condT ?_ ?_; (focus (simp (decide := true) only [ax, tabs, s0, Int.reduceToNat]; done)))
        | (refine AW.condF ?_ ?_; (focus (simp (decide := true) only [ax, tabs, s0, Int.reduceToNat]; done))))
      obtain ⟨k1, k2⟩ := OutB.add_nil J l hn _ rfl
      simp only [List.append_assoc, List.length_append] at k1 k2
      refine leftN (.inr rfl) (by simp) (by simp (decide := true) only [ax, tabs, s0, Int.reduceToNat]; rfl) rfl (.of_scal rfl) ⟨rfl, ?_, ?_⟩
      · exact k1
      · exact k2
    · have u2 := fun X => app_obj hrow X
      have u3 := fun X => app_obj hr X
      have z := room (n := L.length + 1) (by omega)
      have hlt3 := lt_of_obj hr
      have u4 : ∀ X x, ((M ++ X).set ot x)[oo]? = some (.mem [.sl 1 ot 0 L.length L.length]) := fun X x => by rw [List.getElem?_set_ne hne]; exact u2 X
      repeat refine AW.seq ?_
      refine AW.lits [2, 2, 0, 0, 2, 2] ?_
      simp (decide := true) only [ax, axd, tabs, s0, Int.reduceToNat, y0_2, y0_3, y0_16, y0_17, u2, u3, u4, z, List.length_map]
      try (simp (decide := true) only [ax, tabs, s0, Int.reduceToNat])
      repeat (first
        | refine AW.seq ?_
        | refine AW.blockS ?_
        | ((first | refine AW.skip ?_ | refine AW.exit ?_ | refine AW.opsN rfl ?_ | refine AW.ret ?_); try (simp (decide := true) only [ax, tabs, s0, Int.reduceToNat]))
        | (refine AW.condT ?_ ?_; (focus (simp (decide := true) only [ax, tabs, s0, Int.reduceToNat]; done)))
        | (refine AW.condF ?_ ?_; (focus (simp (decide := true) only [ax, tabs, s0, Int.reduceToNat]; done))))
      obtain ⟨k1, k2⟩ := OutB.add_row J l L hne hrow hr (List.map fzi L ++ [fzi l]) (by simp)
      refine leftN (.inr rfl) (by simp) (by simp (decide := true) only [ax, tabs, s0, Int.reduceToNat]; rfl) rfl (.of_scal rfl) ⟨rfl, ?_, ?_⟩
      · exact k1
      · exact k2
theorem leastF_ge {l : List Int} (h : ∀ x ∈ l, 1 ≤ x ∧ x ≤ 6) : 1 ≤ leastF l ∧ leastF l ≤ 7 := by
  unfold leastF
  split
  · have := getD_all h (j := l.length - 1) (by omega); omega
  · omega
set_option maxHeartbeats 1000000 in
theorem pzLook_ok (p : Nat) (hp : 1 ≤ p ∧ p ≤ 4) (cs : List Clu) (hcs : cs.length ≤ 2000000) (hv : ∀ c ∈ cs, isClueF p c = true) (oo : Nat) : ∀ (f : Nat) (L : List (List Int)) (l : List Int) (M : List AO), l.length + f = p → (∀ x ∈ l, 1 ≤ x ∧ x ≤ 6) → OutB oo L M → L.length + 6 ^ f ≤ 100000 →
    AC E 103 [iv p, .fz 3 (cs.map cv), nilfz l, .ptr oo 0 1] M (fun r M' => r = .tup [] ∧ OutB oo (L ++ (nfAll 6 f l).filter (fitAll cs)) M' ∧ Chg oo M M') := by
  intro f
  induction f with
  | zero =>
    intro L l M hlf hl hO hL
    have hnz : nilfz l = .fz 1 (ints l) := by unfold nilfz; rw [if_neg (by omega)]; rfl
    rw [hnz]
    refine (pzLook0_ok p hp cs hcs hv oo L l M hlf hl hO (by omega)).mono ?_
    rintro r M' ⟨h1, h2, h3⟩
    refine ⟨h1, ?_, h3⟩
    have : L ++ (nfAll 6 0 l).filter (fitAll cs) = if fitAll cs l = true then L ++ [l] else L := by
      simp only [nfAll]
      by_cases h : fitAll cs l = true
      · rw [if_pos h, List.filter_cons_of_pos h]; rfl
      · rw [if_neg h, List.filter_cons_of_neg h]; simp
    rw [this]; exact h2
  | succ f ih =>
    intro L l M hlf hl hO hL
    refine AC.body (fn := Tryz.f103) Tryz.func103 rfl rfl (by simp [Tryz.f103]) fun hcl => ?_
    simp only [Tryz.f103]
    have hoo := hO.lt
    obtain ⟨hlf2, hlf3⟩ := leastF_ge hl
    have hroom : (l.length + 1) * 8 ≤ 140737488355328 := by omega
    have hhead : ∀ (T : Tm), T 0 = iv p → T 1 = .fz 3 (cs.map cv) → T 2 = nilfz l → T 3 = .ptr oo 0 1 → T 11 = iv (leastF l) → True := fun _ _ _ _ _ _ => trivial
    rcases Nat.eq_zero_or_pos l.length with h0 | h0
    · have hl0 : l = [] := List.eq_nil_of_length_eq_zero h0
      have hnz : nilfz l = .nils := by rw [hl0]; rfl
      have hlv : leastF l = 1 := by rw [hl0]; rfl
      have e0 : decide ((0 : Int) = (p : Int)) = false := decide_eq_false (by omega)
      rw [hnz]
      try (simp (decide := true) only [ax, tabs, s0, Int.reduceToNat, e0])
      repeat (first
        | refine AW.seq ?_
        | refine AW.blockS ?_
        | ((first | refine AW.skip ?_ | refine AW.exit ?_ | refine AW.opsN rfl ?_ | refine AW.ret ?_); try (simp (decide := true) only [ax, tabs, s0, Int.reduceToNat, e0]))
        | (refine AW.condT ?_ ?_; (focus (simp (decide := true) only [ax, tabs, s0, Int.reduceToNat, e0]; done)))
        | (refine AW.condF ?_ ?_; (focus (simp (decide := true) only [ax, tabs, s0, Int.reduceToNat, e0]; done))))
      refine AW.gen fun T2_ hT2_ => ?_
      have z2_0 := congrFun hT2_ 0
      have z2_1 := congrFun hT2_ 1
      have z2_2 := congrFun hT2_ 2
      have z2_3 := congrFun hT2_ 3
      have z2_11 := congrFun hT2_ 11
      try (simp (decide := true) only [ax, tabs, s0, Int.reduceToNat] at z2_0 z2_1 z2_2 z2_3 z2_11)
      clear hT2_
      refine AW.blockP (fun T M' => OutB oo (L ++ (nfAll 6 (f + 1) l).filter (fitAll cs)) M' ∧ Chg oo M M')
        (AW.loop (fun d T M' => ∃ (x : Int) (L' : List (List Int)), d = (7 - x).toNat ∧ 1 ≤ x ∧ x ≤ 7 ∧ L' ++ (nfGoL (fun x => nfAll 6 f (l ++ [x])) d x).filter (fitAll cs) = L ++ (nfAll 6 (f + 1) l).filter (fitAll cs) ∧ L'.length + d * 6 ^ f ≤ 100000 ∧ T 11 = iv x ∧ OutB oo L' M' ∧ Chg oo M M' ∧ AgT [0, 1, 2, 3] T T2_) (7 - leastF l).toNat
          ⟨leastF l, L, rfl, hlf2, hlf3, rfl, by
            have : (7 - leastF l).toNat * 6 ^ f ≤ 6 ^ (f + 1) := by rw [Nat.pow_succ, Nat.mul_comm]; exact Nat.mul_le_mul_left _ (by omega)
            omega, z2_11.trans (by rw [hlv]), hO, Chg.refl _ _, AgT_refl _ _⟩ ?_) ?_
      · rintro d T M' ⟨x, L', rfl, hx1, hx2, hR, hb, t11, hO', hC, fr⟩
        have y2_0 := (fr 0 (by decide)).trans z2_0
        have y2_1 := (fr 1 (by decide)).trans z2_1
        have y2_2 := (fr 2 (by decide)).trans z2_2
        have y2_3 := (fr 3 (by decide)).trans z2_3
        try (simp (decide := true) only [ax, tabs, s0, Int.reduceToNat, y2_0, y2_1, y2_2, y2_3, t11])
        repeat (first
          | refine AW.seq ?_
          | refine AW.blockS ?_
          | ((first | refine AW.skip ?_ | refine AW.exit ?_ | refine AW.opsN rfl ?_ | refine AW.ret ?_); try (simp (decide := true) only [ax, tabs, s0, Int.reduceToNat, y2_0, y2_1, y2_2, y2_3, t11]))
          | (refine AW.condT ?_ ?_; (focus (simp (decide := true) only [ax, tabs, s0, Int.reduceToNat, y2_0, y2_1, y2_2, y2_3, t11]; done)))
          | (refine AW.condF ?_ ?_; (focus (simp (decide := true) only [ax, tabs, s0, Int.reduceToNat, y2_0, y2_1, y2_2, y2_3, t11]; done))))
        repeat refine AW.seq ?_
        refine AW.cond (decide (x ≤ 6)) (by simp (decide := true) only [ax, tabs, s0, Int.reduceToNat]) (fun h => ?_) (fun h => ?_)
        · have hx3 : x ≤ 6 := of_decide_eq_true h
          have hoo' := hO'.lt
          try (simp (decide := true) only [ax, tabs, s0, Int.reduceToNat])
          repeat (first
            | refine AW.seq ?_
            | refine AW.blockS ?_
            | ((first | refine AW.skip ?_ | refine AW.exit ?_ | refine AW.opsN rfl ?_ | refine AW.ret ?_); try (simp (decide := true) only [ax, tabs, s0, Int.reduceToNat]))
            | (refine AW.condT ?_ ?_; (focus (simp (decide := true) only [ax, tabs, s0, Int.reduceToNat]; done)))
            | (refine AW.condF ?_ ?_; (focus (simp (decide := true) only [ax, tabs, s0, Int.reduceToNat]; done))))
          refine AW.block ?_
          repeat refine AW.seq ?_
          refine AW.lits [2, 2, 2, 1, 2, 2] ?_
          simp (decide := true) only [ax, axd, tabs, s0, Int.reduceToNat, y2_0, y2_1, y2_2, y2_3, t11]
          refine ⟨_, _, (by rw [← hnz]; exact l1Own_nilfz l _ (by omega)), ?_⟩
          simp (decide := true) only [ax, axd, tabs, s0, Int.reduceToNat, y2_0, y2_1, y2_2, y2_3, t11, hroom, ints_length]
          have hok : ∀ y ∈ l ++ [x], 1 ≤ y ∧ y ≤ 6 := by
            intro y hy
            rcases List.mem_append.1 hy with hy | hy
            · exact hl y hy
            · simp at hy; subst hy; exact ⟨hx1, hx3⟩
          have hd := Chg.junk hoo' [AO.dead]
          have hnf : nilfz (l ++ [x]) = .fz 1 (ints (l ++ [x])) := by unfold nilfz; rw [if_neg (by simp)]; rfl
          have hx4 : (7 - x).toNat = (7 - (x + 1)).toNat + 1 := by omega
          rw [hx4, Nat.succ_mul] at hb
          rw [hx4, nfGoL, List.filter_append, ← List.append_assoc] at hR
          have hlen := nfAll_len 6 f (l ++ [x]) (by unfold leastF; rw [if_pos (by simp)]; simp [List.getD_eq_getElem?_getD]; exact hx1) (fun y hy => (hok y hy).1)
          have hlen2 := List.length_filter_le (fitAll cs) (nfAll 6 f (l ++ [x]))
          have h66 : (6 : Int).toNat ^ f = 6 ^ f := rfl
          have key : AC E 103 [iv p, .fz 3 (cs.map cv), .sl 1 M'.length 0 (l ++ [x]).length (l ++ [x]).length, .ptr oo 0 1] (M' ++ [.mem (ints (l ++ [x]))])
              (fun r M'' => r = .tup [] ∧ OutB oo (L' ++ (nfAll 6 f (l ++ [x])).filter (fitAll cs)) M'' ∧ Chg oo M M'') := by
            refine AC.frzP [iv p, .fz 3 (cs.map cv)] [.ptr oo 0 1] (xs := ints (l ++ [x])) (cs := ints (l ++ [x])) (by simp) (by rw [ints_length]) (by rw [ints_length]) (Els.ints 0 _).size (flat_ints _) ?_
            rw [set_end, ← hnf]
            refine (ih L' (l ++ [x]) (M' ++ [.dead]) (by simp; omega) hok (hO'.junk _) (by omega)).mono ?_
            rintro r M'' ⟨h1, h2, h3⟩
            exact ⟨h1, h2, (hC.trans hd).trans h3⟩
          rw [List.length_append, ints_append, List.length_singleton] at key
          have w2 : IntKind.i64.wrap (x + 1) = x + 1 := wrap_in (by omega) (by omega)
          refine key.mono ?_
          rintro _ M'' ⟨rfl, hO2, hC2⟩
          try (simp (decide := true) only [ax, tabs, s0, Int.reduceToNat, y2_0, y2_1, y2_2, y2_3, t11, w2])
          repeat (first
            | refine AW.seq ?_
            | refine AW.blockS ?_
            | ((first | refine AW.skip ?_ | refine AW.exit ?_ | refine AW.opsN rfl ?_ | refine AW.ret ?_); try (simp (decide := true) only [ax, tabs, s0, Int.reduceToNat, y2_0, y2_1, y2_2, y2_3, t11, w2]))
            | (refine AW.condT ?_ ?_; (focus (simp (decide := true) only [ax, tabs, s0, Int.reduceToNat, y2_0, y2_1, y2_2, y2_3, t11, w2]; done)))
            | (refine AW.condF ?_ ?_; (focus (simp (decide := true) only [ax, tabs, s0, Int.reduceToNat, y2_0, y2_1, y2_2, y2_3, t11, w2]; done))))
          exact ⟨(7 - (x + 1)).toNat, by omega, x + 1, _, rfl, by omega, by omega, hR, by rw [List.length_append]; omega, rfl, hO2, hC2, by simp (decide := true) only [ax, tabs, s0, Int.reduceToNat, AgT_cons, AgT_nil, and_true, y2_0, y2_1, y2_2, y2_3, z2_0, z2_1, z2_2, z2_3, z2_11]⟩
        · have hx3 : ¬ x ≤ 6 := of_decide_eq_false h
          have : x = 7 := by omega
          subst this
          try (simp (decide := true) only [ax, tabs, s0, Int.reduceToNat])
          repeat (first
            | refine AW.seq ?_
            | refine AW.blockS ?_
            | ((first | refine AW.skip ?_ | refine AW.exit ?_ | refine AW.opsN rfl ?_ | refine AW.ret ?_); try (simp (decide := true) only [ax, tabs, s0, Int.reduceToNat]))
            | (refine AW.condT ?_ ?_; (focus (simp (decide := true) only [ax, tabs, s0, Int.reduceToNat]; done)))
            | (refine AW.condF ?_ ?_; (focus (simp (decide := true) only [ax, tabs, s0, Int.reduceToNat]; done))))
          rw [← hR]
          simp only [nfGoL, Int.sub_self, Int.toNat_zero, List.filter_nil, List.append_nil]
          exact ⟨hO', hC⟩
      · rintro T M' ⟨hO', hC⟩
        try (simp (decide := true) only [ax, tabs, s0, Int.reduceToNat])
        have := hC.len
        refine leftN (r := .tup []) (.inl rfl) (by omega) (by simp (decide := true) only [ax, tabs, s0, Int.reduceToNat]; rfl) (by simp (decide := true) only [ax, tabs, s0, Int.reduceToNat]) (.of_scal rfl) ⟨rfl, hO', hC⟩
    · have hnz : nilfz l = .fz 1 (ints l) := by unfold nilfz; rw [if_neg (by omega)]; rfl
      have e0 : decide ((l.length : Int) = (p : Int)) = false := decide_eq_false (by omega)
      have e1 : decide ((l.length : Int) > 0) = true := decide_eq_true (by omega)
      have w1 : IntKind.i64.wrap ((l.length : Int) - 1) = ((l.length - 1 : Nat) : Int) := by rw [wrap_in (by omega) (by omega)]; omega
      have hg := ints_get (xs := l) (i := l.length - 1) (by omega)
      have l1 : l.length - 1 < l.length := by omega
      have hla : leastF l = l.getD (l.length - 1) 0 := by unfold leastF; rw [if_pos h0]
      rw [hnz]
      try (simp (decide := true) only [ax, tabs, s0, Int.reduceToNat, e0, e1, w1, hg, l1, ints_length])
      repeat (first
        | refine AW.seq ?_
        | refine AW.blockS ?_
        | ((first | refine AW.skip ?_ | refine AW.exit ?_ | refine AW.opsN rfl ?_ | refine AW.ret ?_); try (simp (decide := true) only [ax, tabs, s0, Int.reduceToNat, e0, e1, w1, hg, l1, ints_length]))
        | (refine AW.condT ?_ ?_; (focus (simp (decide := true) only [ax, tabs, s0, Int.reduceToNat, e0, e1, w1, hg, l1, ints_length]; done)))
        | (refine AW.condF ?_ ?_; (focus (simp (decide := true) only [ax, tabs, s0, Int.reduceToNat, e0, e1, w1, hg, l1, ints_length]; done))))
      refine AW.gen fun T2_ hT2_ => ?_
      have z2_0 := congrFun hT2_ 0
      have z2_1 := congrFun hT2_ 1
      have z2_2 := congrFun hT2_ 2
      have z2_3 := congrFun hT2_ 3
      have z2_11 := congrFun hT2_ 11
      try (simp (decide := true) only [ax, tabs, s0, Int.reduceToNat] at z2_0 z2_1 z2_2 z2_3 z2_11)
      clear hT2_
      refine AW.blockP (fun T M' => OutB oo (L ++ (nfAll 6 (f + 1) l).filter (fitAll cs)) M' ∧ Chg oo M M')
        (AW.loop (fun d T M' => ∃ (x : Int) (L' : List (List Int)), d = (7 - x).toNat ∧ 1 ≤ x ∧ x ≤ 7 ∧ L' ++ (nfGoL (fun x => nfAll 6 f (l ++ [x])) d x).filter (fitAll cs) = L ++ (nfAll 6 (f + 1) l).filter (fitAll cs) ∧ L'.length + d * 6 ^ f ≤ 100000 ∧ T 11 = iv x ∧ OutB oo L' M' ∧ Chg oo M M' ∧ AgT [0, 1, 2, 3] T T2_) (7 - leastF l).toNat
          ⟨leastF l, L, rfl, hlf2, hlf3, rfl, by
            have : (7 - leastF l).toNat * 6 ^ f ≤ 6 ^ (f + 1) := by rw [Nat.pow_succ, Nat.mul_comm]; exact Nat.mul_le_mul_left _ (by omega)
            omega, z2_11.trans (by rw [hla]), hO, Chg.refl _ _, AgT_refl _ _⟩ ?_) ?_
      · rintro d T M' ⟨x, L', rfl, hx1, hx2, hR, hb, t11, hO', hC, fr⟩
        have y2_0 := (fr 0 (by decide)).trans z2_0
        have y2_1 := (fr 1 (by decide)).trans z2_1
        have y2_2 := (fr 2 (by decide)).trans z2_2
        have y2_3 := (fr 3 (by decide)).trans z2_3
        try (simp (decide := true) only [ax, tabs, s0, Int.reduceToNat, y2_0, y2_1, y2_2, y2_3, t11])
        repeat (first
          | refine AW.seq ?_
          | refine AW.blockS ?_
          | ((first | refine AW.skip ?_ | refine AW.exit ?_ | refine AW.opsN rfl ?_ | refine AW.ret ?_); try (simp (decide := true) only [ax, tabs, s0, Int.reduceToNat, y2_0, y2_1, y2_2, y2_3, t11]))
          | (refine AW.condT ?_ ?_; (focus (simp (decide := true) only [ax, tabs, s0, Int.reduceToNat, y2_0, y2_1, y2_2, y2_3, t11]; done)))
          | (refine AW.condF ?_ ?_; (focus (simp (decide := true) only [ax, tabs, s0, Int.reduceToNat, y2_0, y2_1, y2_2, y2_3, t11]; done))))
        repeat refine AW.seq ?_
        refine AW.cond (decide (x ≤ 6)) (by simp (decide := true) only [ax, tabs, s0, Int.reduceToNat]) (fun h => ?_) (fun h => ?_)
        · have hx3 : x ≤ 6 := of_decide_eq_true h
          have hoo' := hO'.lt
          try (simp (decide := true) only [ax, tabs, s0, Int.reduceToNat])
          repeat (first
            | refine AW.seq ?_
            | refine AW.blockS ?_
            | ((first | refine AW.skip ?_ | refine AW.exit ?_ | refine AW.opsN rfl ?_ | refine AW.ret ?_); try (simp (decide := true) only [ax, tabs, s0, Int.reduceToNat]))
            | (refine AW.condT ?_ ?_; (focus (simp (decide := true) only [ax, tabs, s0, Int.reduceToNat]; done)))
            | (refine AW.condF ?_ ?_; (focus (simp (decide := true) only [ax, tabs, s0, Int.reduceToNat]; done))))
          refine AW.block ?_
          repeat refine AW.seq ?_
          refine AW.lits [2, 2, 2, 1, 2, 2] ?_
          simp (decide := true) only [ax, axd, tabs, s0, Int.reduceToNat, y2_0, y2_1, y2_2, y2_3, t11]
          refine ⟨_, _, (by rw [← hnz]; exact l1Own_nilfz l _ (by omega)), ?_⟩
          simp (decide := true) only [ax, axd, tabs, s0, Int.reduceToNat, y2_0, y2_1, y2_2, y2_3, t11, hroom, ints_length]
          have hok : ∀ y ∈ l ++ [x], 1 ≤ y ∧ y ≤ 6 := by
            intro y hy
            rcases List.mem_append.1 hy with hy | hy
            · exact hl y hy
            · simp at hy; subst hy; exact ⟨hx1, hx3⟩
          have hd := Chg.junk hoo' [AO.dead]
          have hnf : nilfz (l ++ [x]) = .fz 1 (ints (l ++ [x])) := by unfold nilfz; rw [if_neg (by simp)]; rfl
          have hx4 : (7 - x).toNat = (7 - (x + 1)).toNat + 1 := by omega
          rw [hx4, Nat.succ_mul] at hb
          rw [hx4, nfGoL, List.filter_append, ← List.append_assoc] at hR
          have hlen := nfAll_len 6 f (l ++ [x]) (by unfold leastF; rw [if_pos (by simp)]; simp [List.getD_eq_getElem?_getD]; exact hx1) (fun y hy => (hok y hy).1)
          have hlen2 := List.length_filter_le (fitAll cs) (nfAll 6 f (l ++ [x]))
          have h66 : (6 : Int).toNat ^ f = 6 ^ f := rfl
          have key : AC E 103 [iv p, .fz 3 (cs.map cv), .sl 1 M'.length 0 (l ++ [x]).length (l ++ [x]).length, .ptr oo 0 1] (M' ++ [.mem (ints (l ++ [x]))])
              (fun r M'' => r = .tup [] ∧ OutB oo (L' ++ (nfAll 6 f (l ++ [x])).filter (fitAll cs)) M'' ∧ Chg oo M M'') := by
            refine AC.frzP [iv p, .fz 3 (cs.map cv)] [.ptr oo 0 1] (xs := ints (l ++ [x])) (cs := ints (l ++ [x])) (by simp) (by rw [ints_length]) (by rw [ints_length]) (Els.ints 0 _).size (flat_ints _) ?_
            rw [set_end, ← hnf]
            refine (ih L' (l ++ [x]) (M' ++ [.dead]) (by simp; omega) hok (hO'.junk _) (by omega)).mono ?_
            rintro r M'' ⟨h1, h2, h3⟩
            exact ⟨h1, h2, (hC.trans hd).trans h3⟩
          rw [List.length_append, ints_append, List.length_singleton] at key
          have w2 : IntKind.i64.wrap (x + 1) = x + 1 := wrap_in (by omega) (by omega)
          refine key.mono ?_
          rintro _ M'' ⟨rfl, hO2, hC2⟩
          try (simp (decide := true) only [ax, tabs, s0, Int.reduceToNat, y2_0, y2_1, y2_2, y2_3, t11, w2])
          repeat (first
            | refine AW.seq ?_
            | refine AW.blockS ?_
            | ((first | refine AW.skip ?_ | refine AW.exit ?_ | refine AW.opsN rfl ?_ | refine AW.ret ?_); try (simp (decide := true) only [ax, tabs, s0, Int.reduceToNat, y2_0, y2_1, y2_2, y2_3, t11, w2]))
            | (refine AW.condT ?_ ?_; (focus (simp (decide := true) only [ax, tabs, s0, Int.reduceToNat, y2_0, y2_1, y2_2, y2_3, t11, w2]; done)))
            | (refine AW.condF ?_ ?_; (focus (simp (decide := true) only [ax, tabs, s0, Int.reduceToNat, y2_0, y2_1, y2_2, y2_3, t11, w2]; done))))
          exact ⟨(7 - (x + 1)).toNat, by omega, x + 1, _, rfl, by omega, by omega, hR, by rw [List.length_append]; omega, rfl, hO2, hC2, by simp (decide := true) only [ax, tabs, s0, Int.reduceToNat, AgT_cons, AgT_nil, and_true, y2_0, y2_1, y2_2, y2_3, z2_0, z2_1, z2_2, z2_3, z2_11]⟩
        · have hx3 : ¬ x ≤ 6 := of_decide_eq_false h
          have : x = 7 := by omega
          subst this
          try (simp (decide := true) only [ax, tabs, s0, Int.reduceToNat])
          repeat (first
            | refine AW.seq ?_
            | refine AW.blockS ?_
            | ((first | refine AW.skip ?_ | refine AW.exit ?_ | refine AW.opsN rfl ?_ | refine AW.ret ?_); try (simp (decide := true) only [ax, tabs, s0, Int.reduceToNat]))
            | (refine AW.condT ?_ ?_; (focus (simp (decide := true) only [ax, tabs, s0, Int.reduceToNat]; done)))
            | (refine AW.condF ?_ ?_; (focus (simp (decide := true) only [ax, tabs, s0, Int.reduceToNat]; done))))
          rw [← hR]
          simp only [nfGoL, Int.sub_self, Int.toNat_zero, List.filter_nil, List.append_nil]
          exact ⟨hO', hC⟩
      · rintro T M' ⟨hO', hC⟩
        try (simp (decide := true) only [ax, tabs, s0, Int.reduceToNat])
        have := hC.len
        refine leftN (r := .tup []) (.inl rfl) (by omega) (by simp (decide := true) only [ax, tabs, s0, Int.reduceToNat]; rfl) (by simp (decide := true) only [ax, tabs, s0, Int.reduceToNat]) (.of_scal rfl) ⟨rfl, hO', hC⟩
end Go.Ax
