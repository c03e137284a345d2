/- Clues that are not needed. -/
import Derived.Test.YtnbfoiidlbfbeaaP20
set_option linter.unusedVariables false
set_option linter.unusedSimpArgs false
namespace Go.Ax
open Go.Proofs

def needP (p : Nat) (cs : List Clu) (k : Nat) : Bool := decide ((hidL p (drop1 cs k)).length = (hidL p cs).length)
def needTo (p : Nat) (cs : List Clu) (i : Nat) : List Int := ((List.range i).filter (needP p cs)).map fun (k : Nat) => (k : Int)
theorem needTo_succ (p : Nat) (cs : List Clu) (i : Nat) : needTo p cs (i + 1) = needTo p cs i ++ if needP p cs i = true then [(i : Int)] else [] := by
  unfold needTo
  rw [List.range_succ, List.filter_append, List.map_append]
  congr 1
  by_cases h : needP p cs i = true
  · rw [if_pos h, List.filter_cons_of_pos h]; rfl
  · rw [if_neg h, List.filter_cons_of_neg h]; rfl
theorem needTo_length (p : Nat) (cs : List Clu) (i : Nat) : (needTo p cs i).length ≤ i := by
  unfold needTo
  rw [List.length_map]
  exact Nat.le_trans (List.length_filter_le _ _) (by simp)
theorem drop1_mem {cs : List Clu} {k : Nat} {c : Clu} (h : c ∈ drop1 cs k) : c ∈ cs := by
  rcases List.mem_append.1 h with h | h
  · exact List.mem_of_mem_take h
  · exact List.mem_of_mem_drop h
theorem NeedlessClues_ok (p : Int) (cs : List Clu) (M : List AO) (hl : cs.length ≤ 2000000) (hv : isPuzF p cs = true) :
    AC E 7 [pv p cs] M (fun r M' => r = .tup [.sl 1 (M.length + 1) 0 (needTo p.toNat cs cs.length).length (needTo p.toNat cs cs.length).length, .bool true] ∧ M'[M.length + 1]? = some (.mem (ints (needTo p.toNat cs cs.length))) ∧ M <+: M') := by
  refine AC.body (fn := Try.f7) Try.func7 rfl rfl (by simp [Try.f7]) fun hcl => ?_
  simp only [Try.f7]
  try (simp (decide := true) only [ax, tabs, s0, Int.reduceToNat, pv])
  repeat (first
    | refine AW.seq ?_
    | refine AW.blockS ?_
    | ((first | refine AW.skip ?_ | refine AW.exit ?_ | refine AW.opsN rfl ?_ | refine AW.ret ?_); try (simp (decide := true) only [ax, tabs, s0, Int.reduceToNat, pv]))
    | (refine AW.condT ?_ ?_; (focus (simp (decide := true) only [ax, tabs, s0, Int.reduceToNat, pv]; done)))
    | (refine AW.condF ?_ ?_; (focus (simp (decide := true) only [ax, tabs, s0, Int.reduceToNat, pv]; done))))
  refine AC.det (IsPuzzle_ok p cs _ hl) ?_
  rw [hv]
  obtain ⟨n, rfl, hn1, h4, h6, hv1, hv2⟩ := isPuzF_dec hv
  have h00 : needTo n cs 0 = [] := rfl
  rw [Int.toNat_natCast]
  try (simp (decide := true) only [ax, tabs, s0, Int.reduceToNat])
  repeat (first
    | refine AW.seq ?_
    | refine AW.blockS ?_
    | ((first | refine AW.skip ?_ | refine AW.exit ?_ | refine AW.opsN rfl ?_ | refine AW.ret ?_); try (simp (decide := true) only [ax, tabs, s0, Int.reduceToNat]))
    | (refine AW.condT ?_ ?_; (focus (simp (decide := true) only [ax, tabs, s0, Int.reduceToNat]; done)))
    | (refine AW.condF ?_ ?_; (focus (simp (decide := true) only [ax, tabs, s0, Int.reduceToNat]; done))))
  refine AC.det (count_ok n ⟨hn1, h4⟩ cs _ hl hv2) ?_
  try (simp (decide := true) only [ax, tabs, s0, Int.reduceToNat, List.length_map])
  repeat (first
    | refine AW.seq ?_
    | refine AW.blockS ?_
    | ((first | refine AW.skip ?_ | refine AW.exit ?_ | refine AW.opsN rfl ?_ | refine AW.ret ?_); try (simp (decide := true) only [ax, tabs, s0, Int.reduceToNat, List.length_map]))
    | (refine AW.condT ?_ ?_; (focus (simp (decide := true) only [ax, tabs, s0, Int.reduceToNat, List.length_map]; done)))
    | (refine AW.condF ?_ ?_; (focus (simp (decide := true) only [ax, tabs, s0, Int.reduceToNat, List.length_map]; done))))
  refine AW.gen fun T0_ hT0_ => ?_
  have z0_1 := congrFun hT0_ 1
  have z0_5 := congrFun hT0_ 5
  have z0_15 := congrFun hT0_ 15
  have z0_4 := congrFun hT0_ 4
  have z0_16 := congrFun hT0_ 16
  try (simp (decide := true) only [ax, tabs, s0, Int.reduceToNat, List.length_map, h00, List.length_nil] at z0_1 z0_5 z0_15 z0_4 z0_16)
  clear hT0_
  refine AW.range cs.length (fun i T M' => AgT [1, 5, 15] T T0_ ∧ T 4 = .sl 1 (M.length + 1) 0 (needTo n cs i).length (needTo n cs i).length ∧ (M ++ [.mem [iv n, .fz 3 (cs.map cv)], .mem (ints (needTo n cs i))]) <+: M') (by omega) (by simp (decide := true) only [ax, tabs, s0, Int.reduceToNat, z0_1, z0_5, z0_15, z0_4, z0_16, List.length_map, h00, List.length_nil]) (by simp (decide := true) only [ax, tabs, s0, Int.reduceToNat, z0_1, z0_5, z0_15, z0_4, z0_16, List.length_map, h00, List.length_nil]) (by decide) (by decide) ⟨AgT_refl _ _, (by first | (simp (decide := true) only [ax, tabs, s0, Int.reduceToNat, z0_1, z0_5, z0_15, z0_4, z0_16, List.length_map, h00, List.length_nil]; done) | (simp (decide := true) only [ax, tabs, s0, Int.reduceToNat, z0_1, z0_5, z0_15, z0_4, z0_16, List.length_map, h00, List.length_nil]; rfl) | rfl | (intros; omega) | (simp (decide := true) only [ax, tabs, s0, Int.reduceToNat, z0_1, z0_5, z0_15, z0_4, z0_16, List.length_map, h00, List.length_nil]; exact Tell.nil _) | (simp (decide := true) only [ax, tabs, s0, Int.reduceToNat, z0_1, z0_5, z0_15, z0_4, z0_16, List.length_map, h00, List.length_nil]; exact Or.inl ⟨rfl, rfl⟩)), (by first | rfl | exact List.prefix_rfl | (simp; done) | (simp (decide := true) only [ax, tabs, s0, Int.reduceToNat, z0_1, z0_5, z0_15, z0_4, z0_16, List.length_map, h00, List.length_nil]; done))⟩ ?_ ?_ ?_
  · rintro i T M' r ⟨fr, h1, hM⟩
    try (simp (decide := true) only [ax, tabs, s0, Int.reduceToNat, AgT_upd, fr, hM, h1])
    repeat' (first | assumption | apply And.intro)
  · rintro i T M' hi ⟨fr, h1, J, rfl⟩ hI hN
    have y0_1 := (fr 1 (by decide)).trans z0_1
    have y0_5 := (fr 5 (by decide)).trans z0_5
    have y0_15 := (fr 15 (by decide)).trans z0_15
    try simp only [List.append_assoc, List.cons_append, List.nil_append] at h1
    refine AW.block ?_
    try (simp (decide := true) only [ax, tabs, s0, Int.reduceToNat, AgT_cons, AgT_nil, and_true, y0_1, z0_1, y0_5, z0_5, y0_15, z0_15, h1, hI, hN, List.prefix_append, List.prefix_append_right_inj, List.cons_prefix_cons, List.nil_prefix, List.append_assoc, List.cons_append, List.nil_append, and_self])
    repeat (first
      | refine AW.seq ?_
      | refine AW.blockS ?_
      | ((first | refine AW.skip ?_ | refine AW.exit ?_ | refine AW.opsN rfl ?_ | refine AW.ret ?_); try (simp (decide := true) only [ax, tabs, s0, Int.reduceToNat, AgT_cons, AgT_nil, and_true, y0_1, z0_1, y0_5, z0_5, y0_15, z0_15, h1, hI, hN, List.prefix_append, List.prefix_append_right_inj, List.cons_prefix_cons, List.nil_prefix, List.append_assoc, List.cons_append, List.nil_append, and_self]))
      | (refine AW.condT ?_ ?_; (focus (simp (decide := true) only [ax, tabs, s0, Int.reduceToNat, AgT_cons, AgT_nil, and_true, y0_1, z0_1, y0_5, z0_5, y0_15, z0_15, h1, hI, hN, List.prefix_append, List.prefix_append_right_inj, List.cons_prefix_cons, List.nil_prefix, List.append_assoc, List.cons_append, List.nil_append, and_self]; done)))
      | (refine AW.condF ?_ ?_; (focus (simp (decide := true) only [ax, tabs, s0, Int.reduceToNat, AgT_cons, AgT_nil, and_true, y0_1, z0_1, y0_5, z0_5, y0_15, z0_15, h1, hI, hN, List.prefix_append, List.prefix_append_right_inj, List.cons_prefix_cons, List.nil_prefix, List.append_assoc, List.cons_append, List.nil_append, and_self]; done))))
    refine AC.det (without_fz n cs i _ hi (by omega)) ?_
    try (simp (decide := true) only [ax, tabs, s0, Int.reduceToNat])
    repeat (first
      | refine AW.seq ?_
      | refine AW.blockS ?_
      | ((first | refine AW.skip ?_ | refine AW.exit ?_ | refine AW.opsN rfl ?_ | refine AW.ret ?_); try (simp (decide := true) only [ax, tabs, s0, Int.reduceToNat]))
      | (refine AW.condT ?_ ?_; (focus (simp (decide := true) only [ax, tabs, s0, Int.reduceToNat]; done)))
      | (refine AW.condF ?_ ?_; (focus (simp (decide := true) only [ax, tabs, s0, Int.reduceToNat]; done))))
    refine AC.det (count_ok n ⟨hn1, h4⟩ _ _ (by rw [drop1_length hi]; omega) (fun c hc => hv2 c (drop1_mem hc))) ?_
    have hd : decide (((hidL n (drop1 cs i)).length : Int) = ((hidL n cs).length : Int)) = needP n cs i := by
      unfold needP
      by_cases h : (hidL n (drop1 cs i)).length = (hidL n cs).length
      · rw [decide_eq_true h, decide_eq_true (by omega)]
      · rw [decide_eq_false h, decide_eq_false (by omega)]
    try (simp (decide := true) only [ax, tabs, s0, Int.reduceToNat, AgT_cons, AgT_nil, and_true, y0_1, z0_1, y0_5, z0_5, y0_15, z0_15, h1, hI, hN, List.prefix_append, List.prefix_append_right_inj, List.cons_prefix_cons, List.nil_prefix, List.append_assoc, List.cons_append, List.nil_append, and_self, hd])
    repeat (first
      | refine AW.seq ?_
      | refine AW.blockS ?_
      | ((first | refine AW.skip ?_ | refine AW.exit ?_ | refine AW.opsN rfl ?_ | refine AW.ret ?_); try (simp (decide := true) only [ax, tabs, s0, Int.reduceToNat, AgT_cons, AgT_nil, and_true, y0_1, z0_1, y0_5, z0_5, y0_15, z0_15, h1, hI, hN, List.prefix_append, List.prefix_append_right_inj, List.cons_prefix_cons, List.nil_prefix, List.append_assoc, List.cons_append, List.nil_append, and_self, hd]))
      | (refine AW.condT ?_ ?_; (focus (simp (decide := true) only [ax, tabs, s0, Int.reduceToNat, AgT_cons, AgT_nil, and_true, y0_1, z0_1, y0_5, z0_5, y0_15, z0_15, h1, hI, hN, List.prefix_append, List.prefix_append_right_inj, List.cons_prefix_cons, List.nil_prefix, List.append_assoc, List.cons_append, List.nil_append, and_self, hd]; done)))
      | (refine AW.condF ?_ ?_; (focus (simp (decide := true) only [ax, tabs, s0, Int.reduceToNat, AgT_cons, AgT_nil, and_true, y0_1, z0_1, y0_5, z0_5, y0_15, z0_15, h1, hI, hN, List.prefix_append, List.prefix_append_right_inj, List.cons_prefix_cons, List.nil_prefix, List.append_assoc, List.cons_append, List.nil_append, and_self, hd]; done))))
    have hs := needTo_succ n cs i
    have hnl := needTo_length n cs i
    have z1 : ((needTo n cs i).length + 1) * 8 ≤ 140737488355328 := by omega
    repeat refine AW.seq ?_
    refine AW.cond (needP n cs i) (by simp (decide := true) only [ax, tabs, s0, Int.reduceToNat]) (fun h => ?_) (fun h => ?_)
    · rw [if_pos h] at hs
      repeat refine AW.seq ?_
      refine AW.lits [2, 2, 2] ?_
      simp (decide := true) only [ax, axd, tabs, s0, Int.reduceToNat, AgT_cons, AgT_nil, and_true, y0_1, z0_1, y0_5, z0_5, y0_15, z0_15, h1, hI, hN, List.prefix_append, List.prefix_append_right_inj, List.cons_prefix_cons, List.nil_prefix, List.append_assoc, List.cons_append, List.nil_append, and_self, ints_length, z1]
      rw [hs]
      exact ⟨by simp, by simp [ints]⟩
    · rw [if_neg (by rw [h]; simp), List.append_nil] at hs
      try (simp (decide := true) only [ax, tabs, s0, Int.reduceToNat, AgT_cons, AgT_nil, and_true, y0_1, z0_1, y0_5, z0_5, y0_15, z0_15, h1, hI, hN, List.prefix_append, List.prefix_append_right_inj, List.cons_prefix_cons, List.nil_prefix, List.append_assoc, List.cons_append, List.nil_append, and_self, hs])
      repeat (first
        | refine AW.seq ?_
        | refine AW.blockS ?_
        | ((first | refine AW.skip ?_ | refine AW.exit ?_ | refine AW.opsN rfl ?_ | refine AW.ret ?_); try (simp (decide := true) only [ax, tabs, s0, Int.reduceToNat, AgT_cons, AgT_nil, and_true, y0_1, z0_1, y0_5, z0_5, y0_15, z0_15, h1, hI, hN, List.prefix_append, List.prefix_append_right_inj, List.cons_prefix_cons, List.nil_prefix, List.append_assoc, List.cons_append, List.nil_append, and_self, hs]))
        | (refine AW.condT ?_ ?_; (focus (simp (decide := true) only [ax, tabs, s0, Int.reduceToNat, AgT_cons, AgT_nil, and_true, y0_1, z0_1, y0_5, z0_5, y0_15, z0_15, h1, hI, hN, List.prefix_append, List.prefix_append_right_inj, List.cons_prefix_cons, List.nil_prefix, List.append_assoc, List.cons_append, List.nil_append, and_self, hs]; done)))
        | (refine AW.condF ?_ ?_; (focus (simp (decide := true) only [ax, tabs, s0, Int.reduceToNat, AgT_cons, AgT_nil, and_true, y0_1, z0_1, y0_5, z0_5, y0_15, z0_15, h1, hI, hN, List.prefix_append, List.prefix_append_right_inj, List.cons_prefix_cons, List.nil_prefix, List.append_assoc, List.cons_append, List.nil_append, and_self, hs]; done))))
  · rintro T M' ⟨fr, h1, J, rfl⟩
    have y0_1 := (fr 1 (by decide)).trans z0_1
    have y0_5 := (fr 5 (by decide)).trans z0_5
    have y0_15 := (fr 15 (by decide)).trans z0_15
    try simp only [List.append_assoc, List.cons_append, List.nil_append] at h1
    try (simp (decide := true) only [ax, tabs, s0, Int.reduceToNat, AgT_cons, AgT_nil, and_true, y0_1, z0_1, y0_5, z0_5, y0_15, z0_15, h1])
    repeat (first
      | refine AW.seq ?_
      | refine AW.blockS ?_
      | ((first | refine AW.skip ?_ | refine AW.exit ?_ | refine AW.opsN rfl ?_ | refine AW.ret ?_); try (simp (decide := true) only [ax, tabs, s0, Int.reduceToNat, AgT_cons, AgT_nil, and_true, y0_1, z0_1, y0_5, z0_5, y0_15, z0_15, h1]))
      | (refine AW.condT ?_ ?_; (focus (simp (decide := true) only [ax, tabs, s0, Int.reduceToNat, AgT_cons, AgT_nil, and_true, y0_1, z0_1, y0_5, z0_5, y0_15, z0_15, h1]; done)))
      | (refine AW.condF ?_ ?_; (focus (simp (decide := true) only [ax, tabs, s0, Int.reduceToNat, AgT_cons, AgT_nil, and_true, y0_1, z0_1, y0_5, z0_5, y0_15, z0_15, h1]; done))))
    refine leftN (.inr rfl) (by simp) (by simp (decide := true) only [ax, tabs, s0, Int.reduceToNat]; rfl) rfl ?_ ⟨rfl, by simp, List.prefix_append _ _⟩
    exact .tup2 (.sl _ _ _ _ _ (by simp)) (.bool _)
theorem Grow.keep {k n : Nat} {xs : List AV} {a : AV} {M' : List AO} (h : Grow k n xs a M') (X : List AO) : Grow k n xs a (M' ++ X) := by
  rcases h with h | ⟨o, h1, h2, h3⟩
  · exact .inl h
  · exact .inr ⟨o, h1, h2, app_obj h3 X⟩
theorem Grow.weaken {k n m : Nat} {xs : List AV} {a : AV} {M' : List AO} (h : Grow k n xs a M') (hm : m ≤ n) : Grow k m xs a M' := by
  rcases h with h | ⟨o, h1, h2, h3⟩
  · exact .inl h
  · exact .inr ⟨o, h1, by omega, h3⟩
theorem grow_new {n q : Nat} {L L2 : List Int} {x : Int} {M' : List AO} (hL : ints L = []) (hs : L2 = L ++ [x]) (hq : M'[q]? = some (.mem [iv x])) (hn : n ≤ q) : Grow 1 n (ints L2) (.sl 1 q 0 1 1) M' := by
  have : L = [] := by simpa [ints] using hL
  subst this
  subst hs
  exact .inr ⟨q, rfl, hn, hq⟩
theorem grow_more {n q : Nat} {L L2 : List Int} {x : Int} {M' : List AO} (hs : L2 = L ++ [x]) (hq : M'[q]? = some (.mem (flat (ints L)))) (hn : n ≤ q) : Grow 1 n (ints L2) (.sl 1 q 0 (L.length + 1) (L.length + 1)) (M'.set q (.mem (ints L ++ [.int .i64 x]))) := by
  subst hs
  refine .inr ⟨q, by rw [ints_length]; simp, hn, ?_⟩
  rw [List.getElem?_set_self (lt_of_obj hq), flat_ints, ints_append]; rfl
theorem specNeedless_ok (p : Int) (cs : List Clu) (M : List AO) (hl : cs.length ≤ 2000000) :
    AC E 5 [pv p cs] M (fun r M' => r = (if isPuzF p cs = true then .tup [.fz 1 (ints (needTo p.toNat cs cs.length)), .bool true] else .tup [.fz 1 [], .bool false]) ∧ M' = M) := by
  refine AC.body (fn := Try.f5) Try.func5 rfl rfl (by simp [Try.f5]) fun hcl => ?_
  simp only [Try.f5]
  try (simp (decide := true) only [ax, tabs, s0, Int.reduceToNat, pv])
  repeat (first
    | refine AW.seq ?_
    | refine AW.blockS ?_
    | ((first | refine AW.skip ?_ | refine AW.exit ?_ | refine AW.opsN rfl ?_ | refine AW.ret ?_); try (simp (decide := true) only [ax, tabs, s0, Int.reduceToNat, pv]))
    | (refine AW.condT ?_ ?_; (focus (simp (decide := true) only [ax, tabs, s0, Int.reduceToNat, pv]; done)))
    | (refine AW.condF ?_ ?_; (focus (simp (decide := true) only [ax, tabs, s0, Int.reduceToNat, pv]; done))))
  refine AC.det (pzGood_ok p cs _ hl) ?_
  cases hv : isPuzF p cs with
  | false =>
    try (simp (decide := true) only [ax, tabs, s0, Int.reduceToNat])
    repeat (first
      | refine AW.seq ?_
      | refine AW.blockS ?_
      | ((first | refine AW.skip ?_ | refine AW.exit ?_ | refine AW.opsN rfl ?_ | refine AW.ret ?_); try (simp (decide := true) only [ax, tabs, s0, Int.reduceToNat]))
      | (refine AW.condT ?_ ?_; (focus (simp (decide := true) only [ax, tabs, s0, Int.reduceToNat]; done)))
      | (refine AW.condF ?_ ?_; (focus (simp (decide := true) only [ax, tabs, s0, Int.reduceToNat]; done))))
    refine left (.inr rfl) hcl (Nat.le_refl _) (by simp (decide := true) only [ax, tabs, s0, Int.reduceToNat]; rfl) ?_ ⟨rfl, rfl⟩
    try (simp (decide := true) only [ax, tabs, s0, Int.reduceToNat])
    exact tell_tup (.cons (.nil 1) (.cons (.scal rfl) .nil))
  | true =>
    obtain ⟨n, rfl, hn1, h4, h6, hv1, hv2⟩ := isPuzF_dec hv
    have h00 : needTo n cs 0 = [] := rfl
    rw [Int.toNat_natCast]
    try (simp (decide := true) only [ax, tabs, s0, Int.reduceToNat])
    repeat (first
      | refine AW.seq ?_
      | refine AW.blockS ?_
      | ((first | refine AW.skip ?_ | refine AW.exit ?_ | refine AW.opsN rfl ?_ | refine AW.ret ?_); try (simp (decide := true) only [ax, tabs, s0, Int.reduceToNat]))
      | (refine AW.condT ?_ ?_; (focus (simp (decide := true) only [ax, tabs, s0, Int.reduceToNat]; done)))
      | (refine AW.condF ?_ ?_; (focus (simp (decide := true) only [ax, tabs, s0, Int.reduceToNat]; done))))
    refine AC.det (pzAll_ok n ⟨hn1, h4⟩ cs _ hl hv1) ?_
    try (simp (decide := true) only [ax, tabs, s0, Int.reduceToNat, List.length_map])
    repeat (first
      | refine AW.seq ?_
      | refine AW.blockS ?_
      | ((first | refine AW.skip ?_ | refine AW.exit ?_ | refine AW.opsN rfl ?_ | refine AW.ret ?_); try (simp (decide := true) only [ax, tabs, s0, Int.reduceToNat, List.length_map]))
      | (refine AW.condT ?_ ?_; (focus (simp (decide := true) only [ax, tabs, s0, Int.reduceToNat, List.length_map]; done)))
      | (refine AW.condF ?_ ?_; (focus (simp (decide := true) only [ax, tabs, s0, Int.reduceToNat, List.length_map]; done))))
    refine AW.gen fun T0_ hT0_ => ?_
    have z0_1 := congrFun hT0_ 1
    have z0_5 := congrFun hT0_ 5
    have z0_18 := congrFun hT0_ 18
    have z0_4 := congrFun hT0_ 4
    have z0_19 := congrFun hT0_ 19
    try (simp (decide := true) only [ax, tabs, s0, Int.reduceToNat, List.length_map, h00, List.length_nil] at z0_1 z0_5 z0_18 z0_4 z0_19)
    clear hT0_
    refine AW.range cs.length (fun i T M' => AgT [1, 5, 18] T T0_ ∧ Grow 1 (M.length + 1) (ints (needTo n cs i)) (T 4) M' ∧ (M ++ [.mem [iv n, .fz 3 (cs.map cv)]]) <+: M') (by omega) (by simp (decide := true) only [ax, tabs, s0, Int.reduceToNat, z0_1, z0_5, z0_18, z0_4, z0_19, List.length_map, h00, List.length_nil]) (by simp (decide := true) only [ax, tabs, s0, Int.reduceToNat, z0_1, z0_5, z0_18, z0_4, z0_19, List.length_map, h00, List.length_nil]) (by decide) (by decide) ⟨AgT_refl _ _, (by first | (simp (decide := true) only [ax, tabs, s0, Int.reduceToNat, z0_1, z0_5, z0_18, z0_4, z0_19, List.length_map, h00, List.length_nil]; done) | (simp (decide := true) only [ax, tabs, s0, Int.reduceToNat, z0_1, z0_5, z0_18, z0_4, z0_19, List.length_map, h00, List.length_nil]; rfl) | rfl | (intros; omega) | (simp (decide := true) only [ax, tabs, s0, Int.reduceToNat, z0_1, z0_5, z0_18, z0_4, z0_19, List.length_map, h00, List.length_nil]; exact Tell.nil _) | (simp (decide := true) only [ax, tabs, s0, Int.reduceToNat, z0_1, z0_5, z0_18, z0_4, z0_19, List.length_map, h00, List.length_nil]; exact Or.inl ⟨rfl, rfl⟩)), (by first | rfl | exact List.prefix_rfl | (simp; done) | (simp (decide := true) only [ax, tabs, s0, Int.reduceToNat, z0_1, z0_5, z0_18, z0_4, z0_19, List.length_map, h00, List.length_nil]; done))⟩ ?_ ?_ ?_
    · rintro i T M' r ⟨fr, h1, hM⟩
      try (simp (decide := true) only [ax, tabs, s0, Int.reduceToNat, AgT_upd, fr, hM, h1])
      repeat' (first | assumption | apply And.intro)
    · rintro i T M' hi ⟨fr, h1, J, rfl⟩ hI hN
      have y0_1 := (fr 1 (by decide)).trans z0_1
      have y0_5 := (fr 5 (by decide)).trans z0_5
      have y0_18 := (fr 18 (by decide)).trans z0_18
      try simp only [List.append_assoc, List.cons_append, List.nil_append] at h1
      refine AW.block ?_
      try (simp (decide := true) only [ax, tabs, s0, Int.reduceToNat, AgT_cons, AgT_nil, and_true, y0_1, z0_1, y0_5, z0_5, y0_18, z0_18, h1, hI, hN, List.prefix_append, List.prefix_append_right_inj, List.cons_prefix_cons, List.nil_prefix, List.append_assoc, List.cons_append, List.nil_append, and_self])
      repeat (first
        | refine AW.seq ?_
        | refine AW.blockS ?_
        | ((first | refine AW.skip ?_ | refine AW.exit ?_ | refine AW.opsN rfl ?_ | refine AW.ret ?_); try (simp (decide := true) only [ax, tabs, s0, Int.reduceToNat, AgT_cons, AgT_nil, and_true, y0_1, z0_1, y0_5, z0_5, y0_18, z0_18, h1, hI, hN, List.prefix_append, List.prefix_append_right_inj, List.cons_prefix_cons, List.nil_prefix, List.append_assoc, List.cons_append, List.nil_append, and_self]))
        | (refine AW.condT ?_ ?_; (focus (simp (decide := true) only [ax, tabs, s0, Int.reduceToNat, AgT_cons, AgT_nil, and_true, y0_1, z0_1, y0_5, z0_5, y0_18, z0_18, h1, hI, hN, List.prefix_append, List.prefix_append_right_inj, List.cons_prefix_cons, List.nil_prefix, List.append_assoc, List.cons_append, List.nil_append, and_self]; done)))
        | (refine AW.condF ?_ ?_; (focus (simp (decide := true) only [ax, tabs, s0, Int.reduceToNat, AgT_cons, AgT_nil, and_true, y0_1, z0_1, y0_5, z0_5, y0_18, z0_18, h1, hI, hN, List.prefix_append, List.prefix_append_right_inj, List.cons_prefix_cons, List.nil_prefix, List.append_assoc, List.cons_append, List.nil_append, and_self]; done))))
      have hd : decide (((hidL n (drop1 cs i)).length : Int) = ((hidL n cs).length : Int)) = needP n cs i := by
        unfold needP
        by_cases h : (hidL n (drop1 cs i)).length = (hidL n cs).length
        · rw [decide_eq_true h, decide_eq_true (by omega)]
        · rw [decide_eq_false h, decide_eq_false (by omega)]
      repeat refine AW.seq ?_
      refine AW.draw Emix [0, 0, 0, 0, 2, 0, 0, 2, 2] [0, 1, 0, 4, 0, 28, 63, 127, 0, 511] (by kernel_rfl) ?_
      simp (decide := true) only [ax, axd, tabs, s0, Int.reduceToNat, y0_1, y0_5, y0_18, hI, hN]
      refine ⟨_, pzWithout_ok cs i _ hi (by omega), ?_⟩
      try (simp (decide := true) only [ax, axd, tabs, s0, Int.reduceToNat])
      refine ⟨_, pzAll_ok n ⟨hn1, h4⟩ _ _ (by rw [drop1_length hi]; omega) (fun c hc => hv1 c (drop1_mem hc)), ?_⟩
      simp (decide := true) only [ax, axd, tabs, s0, Int.reduceToNat, List.length_map, hd, y0_1, y0_5, y0_18]
      have hs := needTo_succ n cs i
      have hnl := needTo_length n cs i
      have z1 : ((needTo n cs i).length + 1) * 8 ≤ 140737488355328 := by omega
      repeat refine AW.seq ?_
      refine AW.cond (needP n cs i) (by simp (decide := true) only [ax, tabs, s0, Int.reduceToNat, hd, y0_1, y0_5, y0_18]) (fun h => ?_) (fun h => ?_)
      · rw [if_pos h] at hs
        rcases h1 with ⟨hL, ha⟩ | ⟨ot, ha, hot, hrow⟩
        · repeat refine AW.seq ?_
          refine AW.lits [2, 2, 2] ?_
          simp (decide := true) only [ax, axd, tabs, s0, Int.reduceToNat, y0_1, y0_5, y0_18, hI, hN, ha]
          refine ⟨grow_new hL hs (by simp) (by omega), by simp⟩
        · repeat refine AW.seq ?_
          refine AW.lits [2, 2, 2] ?_
          simp (decide := true) only [ax, axd, tabs, s0, Int.reduceToNat, y0_1, y0_5, y0_18, hI, hN, ha, hrow, flat_ints, ints_length, z1]
          refine ⟨grow_more hs hrow hot, ?_⟩
          have := set_keep (M := M ++ [AO.mem [iv ↑n, AV.fz 3 (List.map cv cs)]]) (J := J) (o := ot) (x := AO.mem (ints (needTo n cs i) ++ [AV.int IntKind.i64 ↑i])) (by simpa using hot)
          simpa using this
      · rw [if_neg (by rw [h]; simp), List.append_nil] at hs
        try (simp (decide := true) only [ax, tabs, s0, Int.reduceToNat, AgT_cons, AgT_nil, and_true, y0_1, z0_1, y0_5, z0_5, y0_18, z0_18, h1, hI, hN, List.prefix_append, List.prefix_append_right_inj, List.cons_prefix_cons, List.nil_prefix, List.append_assoc, List.cons_append, List.nil_append, and_self, hs])
        repeat (first
          | refine AW.seq ?_
          | refine AW.blockS ?_
          | ((first | refine AW.skip ?_ | refine AW.exit ?_ | refine AW.opsN rfl ?_ | refine AW.ret ?_); try (simp (decide := true) only [ax, tabs, s0, Int.reduceToNat, AgT_cons, AgT_nil, and_true, y0_1, z0_1, y0_5, z0_5, y0_18, z0_18, h1, hI, hN, List.prefix_append, List.prefix_append_right_inj, List.cons_prefix_cons, List.nil_prefix, List.append_assoc, List.cons_append, List.nil_append, and_self, hs]))
          | (refine AW.condT ?_ ?_; (focus (simp (decide := true) only [ax, tabs, s0, Int.reduceToNat, AgT_cons, AgT_nil, and_true, y0_1, z0_1, y0_5, z0_5, y0_18, z0_18, h1, hI, hN, List.prefix_append, List.prefix_append_right_inj, List.cons_prefix_cons, List.nil_prefix, List.append_assoc, List.cons_append, List.nil_append, and_self, hs]; done)))
          | (refine AW.condF ?_ ?_; (focus (simp (decide := true) only [ax, tabs, s0, Int.reduceToNat, AgT_cons, AgT_nil, and_true, y0_1, z0_1, y0_5, z0_5, y0_18, z0_18, h1, hI, hN, List.prefix_append, List.prefix_append_right_inj, List.cons_prefix_cons, List.nil_prefix, List.append_assoc, List.cons_append, List.nil_append, and_self, hs]; done))))
        try exact h1
    · rintro T M' ⟨fr, h1, J, rfl⟩
      have y0_1 := (fr 1 (by decide)).trans z0_1
      have y0_5 := (fr 5 (by decide)).trans z0_5
      have y0_18 := (fr 18 (by decide)).trans z0_18
      try simp only [List.append_assoc, List.cons_append, List.nil_append] at h1
      try (simp (decide := true) only [ax, tabs, s0, Int.reduceToNat, AgT_cons, AgT_nil, and_true, y0_1, z0_1, y0_5, z0_5, y0_18, z0_18, h1])
      repeat (first
        | refine AW.seq ?_
        | refine AW.blockS ?_
        | ((first | refine AW.skip ?_ | refine AW.exit ?_ | refine AW.opsN rfl ?_ | refine AW.ret ?_); try (simp (decide := true) only [ax, tabs, s0, Int.reduceToNat, AgT_cons, AgT_nil, and_true, y0_1, z0_1, y0_5, z0_5, y0_18, z0_18, h1]))
        | (refine AW.condT ?_ ?_; (focus (simp (decide := true) only [ax, tabs, s0, Int.reduceToNat, AgT_cons, AgT_nil, and_true, y0_1, z0_1, y0_5, z0_5, y0_18, z0_18, h1]; done)))
        | (refine AW.condF ?_ ?_; (focus (simp (decide := true) only [ax, tabs, s0, Int.reduceToNat, AgT_cons, AgT_nil, and_true, y0_1, z0_1, y0_5, z0_5, y0_18, z0_18, h1]; done))))
      refine left (.inr rfl) hcl (Nat.le_refl _) (by simp (decide := true) only [ax, tabs, s0, Int.reduceToNat]; rfl) ?_ ⟨rfl, rfl⟩
      try (simp (decide := true) only [ax, tabs, s0, Int.reduceToNat])
      exact tell_tup (.cons ((h1.weaken (Nat.le_succ _)).tell (.ints ..)) (.cons (.scal rfl) .nil))
end Go.Ax
