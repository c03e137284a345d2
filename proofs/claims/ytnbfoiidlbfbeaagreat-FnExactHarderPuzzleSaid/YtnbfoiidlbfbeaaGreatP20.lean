/- Solutions of puzzles, counted. -/
import Derived.Test.YtnbfoiidlbfbeaaGreatP19
set_option linter.unusedVariables false
set_option linter.unusedSimpArgs false
namespace Go.Ax
open Go.Proofs

theorem isPuzF_dec {p : Int} {cs : List Clu} (h : isPuzF p cs = true) : ∃ n : Nat, p = n ∧ 1 ≤ n ∧ n ≤ 4 ∧ cs.length ≤ 6 ∧ (∀ c ∈ cs, isClueF p c = true) ∧ ∀ c ∈ cs, 0 ≤ c.2.1 := by
  simp only [isPuzF, inB, Bool.and_eq_true, decide_eq_true_eq, Bool.not_eq_true', List.any_eq_false, Bool.not_eq_false'] at h
  obtain ⟨⟨h1, h2⟩, h3, h4⟩ := h
  have h5 : ∀ c ∈ cs, isClueF p c = true := fun c hc => by simpa using h4 c hc
  exact ⟨p.toNat, by omega, by omega, by omega, h3, h5, fun c hc => (isClueF_A (h5 c hc)).2.1⟩
/-- What a box holds behind the looks, told. -/
theorem OutB.end {oo : Nat} {L : List (List Int)} {M X M' : List AO} (hcl : ClM M) (hO : OutB oo L M') (hC : Chg oo (M ++ X) M') (hge : M.length ≤ oo) (hoo : oo < (M ++ X).length) (hrow : ∀ k q off len g, (M ++ X)[oo]? = some (.mem [.sl k q off len g]) → M.length ≤ q) :
    ∃ J a, M' = M ++ J ∧ (M ++ J)[oo]? = some (.mem [a]) ∧ Tell (M ++ J) M.length a (.fz 1 (L.map fzi)) ∧ (a = .nils ∧ L = [] ∨ ∃ ot, a = .sl 1 ot 0 L.length L.length ∧ M.length ≤ ot ∧ (M ++ J)[ot]? = some (.mem (L.map fzi))) := by
  have hft : ∀ q, Foot oo (M ++ X) q → M.length ≤ q := by
    intro q hf
    rcases hf with h | ⟨k, off, len, g, h⟩
    · omega
    · exact hrow k q off len g h
  have hlen := hC.len
  simp at hlen
  obtain ⟨J, rfl⟩ := keep_append (M := M) (M' := M') (by omega) (fun q hq => by
    rw [hC.keep q (by simp; omega) (fun h => by have := hft q h; omega), List.getElem?_append_left hq])
  rcases hO with ⟨h1, h2⟩ | ⟨ot, h1, h2, h3⟩
  · exact ⟨J, .nils, rfl, h2, by rw [h1]; exact .nil 1, .inl ⟨rfl, h1⟩⟩
  · have hot : M.length ≤ ot := by
      rcases hC.foot ot (.inr ⟨1, 0, _, _, h2⟩) with h | h
      · exact hft _ h
      · simp at h; omega
    exact ⟨J, _, rfl, h2, tell_row' h3 hot rfl, .inr ⟨ot, rfl, hot, h3⟩⟩
theorem pzAll_ok (p : Nat) (hp : 1 ≤ p ∧ p ≤ 4) (cs : List Clu) (M : List AO) (hcs : cs.length ≤ 2000000) (hv : ∀ c ∈ cs, isClueF p c = true) :
    AC E 89 [iv p, .fz 3 (cs.map cv)] M (fun r M' => r = .fz 1 ((hidL p cs).map fzi) ∧ M' = M) := by
  refine AC.body (fn := Tryz.f89) Tryz.func89 rfl rfl (by simp [Tryz.f89]) fun hcl => ?_
  simp only [Tryz.f89]
  try (simp (decide := true) only [ax, tabs, s0, Int.reduceToNat])
  repeat (first
    | refine AW.seq ?_
    | refine AW.blockS ?_
    | ((first | refine AW.skip ?_ | refine AW.exit ?_ | refine AW.opsN rfl ?_ | refine AW.ret ?_); try (simp (decide := true) only [ax, tabs, s0, Int.reduceToNat]))
    | (refine AW.condT ?_ ?_; (focus (simp (decide := true) only [ax, tabs, s0, Int.reduceToNat]; done)))
    | (refine AW.condF ?_ ?_; (focus (simp (decide := true) only [ax, tabs, s0, Int.reduceToNat]; done))))
  have hpow : 6 ^ p ≤ 1296 := by
    have : 6 ^ p ≤ 6 ^ 4 := Nat.pow_le_pow_right (by omega) hp.2
    simpa using this
  refine (pzLook_ok p hp cs hcs hv M.length p [] [] (M ++ [.mem [.nils]]) (by simp) (fun x hx => by cases hx) (.inl ⟨rfl, by simp⟩) (by simp; omega)).mono ?_
  rintro _ M' ⟨rfl, hO, hC⟩
  obtain ⟨J, a, rfl, h1, h2, _⟩ := hO.end hcl hC (Nat.le_refl _) (by simp) (fun k q off len g h => by simp at h)
  try (simp (decide := true) only [ax, tabs, s0, Int.reduceToNat, h1])
  repeat (first
    | refine AW.seq ?_
    | refine AW.blockS ?_
    | ((first | refine AW.skip ?_ | refine AW.exit ?_ | refine AW.opsN rfl ?_ | refine AW.ret ?_); try (simp (decide := true) only [ax, tabs, s0, Int.reduceToNat, h1]))
    | (refine AW.condT ?_ ?_; (focus (simp (decide := true) only [ax, tabs, s0, Int.reduceToNat, h1]; done)))
    | (refine AW.condF ?_ ?_; (focus (simp (decide := true) only [ax, tabs, s0, Int.reduceToNat, h1]; done))))
  refine left (.inr rfl) hcl (Nat.le_refl _) (by simp (decide := true) only [ax, tabs, s0, Int.reduceToNat]; rfl) ?_ ⟨rfl, rfl⟩
  try (simp (decide := true) only [ax, tabs, s0, Int.reduceToNat])
  exact h2
theorem drop1_length {cs : List Clu} {k : Nat} (hk : k < cs.length) : (drop1 cs k).length = cs.length - 1 := by rw [drop1, List.length_append, List.length_take, List.length_drop]; omega
theorem tell_clues {M' : List AO} {n o : Nat} {ds : List Clu} (ho : M'[o]? = some (.mem (cells ds))) (hn : n ≤ o) : Tell M' n (.sl 3 o 0 ds.length (ds.length * 3)) (.fz 3 (ds.map cv)) := by
  have := tell_at (M' := M') (n := n) (k := 3) (o := o) (xs := ds.map cv) ho hn (.clues n ds)
  rw [List.length_map] at this; exact this
theorem tell_pre {M' : List AO} {n o : Nat} {ds : List Clu} {z : List AV} (ho : M'[o]? = some (.mem (cells ds ++ z))) (hn : n ≤ o) : Tell M' n (.sl 3 o 0 ds.length (cells ds ++ z).length) (.fz 3 (ds.map cv)) := by
  refine .row 3 o 0 ds.length _ (cells ds ++ z) (ds.map cv) ho hn rfl (by simp) (Els.clues 0 ds).size (fun i => (cells ds).getD i .any) (fun i b hb => ?_) (fun i b hb => ?_)
  · have hb : (cells ds)[i]? = some b := hb
    rw [Nat.zero_add, List.getElem?_append_left (List.getElem?_eq_some_iff.1 hb).1, List.getD_eq_getElem?_getD, hb]; rfl
  · have hb : (cells ds)[i]? = some b := hb
    have e : (cells ds).getD i .any = b := by rw [List.getD_eq_getElem?_getD, hb]; rfl
    rw [e]; exact .same b (.of_scal1 (cells_scal ds b (List.mem_of_getElem? hb)))
theorem Cl.agg2 {n : Nat} {a b : AV} (h1 : Cl n a) (h2 : Cl n b) : Cl n (.agg [a, b]) := .agg _ fun i x hx => by
  match i, hx with
  | 0, hx => simp at hx; subst hx; exact h1
  | 1, hx => simp at hx; subst hx; exact h2
theorem Cl.tup2 {n : Nat} {a b : AV} (h1 : Cl n a) (h2 : Cl n b) : Cl n (.tup [a, b]) := .tup _ fun i x hx => by
  match i, hx with
  | 0, hx => simp at hx; subst hx; exact h1
  | 1, hx => simp at hx; subst hx; exact h2
theorem pzWithout_ok (cs : List Clu) (k : Nat) (M : List AO) (hk : k < cs.length) (hl : cs.length ≤ 1000) : AC E 65 [.fz 3 (cs.map cv), iv k] M (fun r M' => r = .fz 3 ((drop1 cs k).map cv) ∧ M' = M) := by
  refine AC.body (fn := Tryz.f65) Tryz.func65 rfl rfl (by simp [Tryz.f65]) fun hcl => ?_
  simp only [Tryz.f65]
  have k1 : k + 1 ≤ cs.length := by omega
  have k0 : k ≤ cs.length := by omega
  have w1 : IntKind.i64.wrap ((k : Int) + 1) = ((k + 1 : Nat) : Int) := wrap_succ (by omega)
  have t1 : ((cs.map cv).take k) = (cs.take k).map cv := by simp
  have t2 : ((cs.map cv).drop (k + 1)) = (cs.drop (k + 1)).map cv := by simp
  have t3 : (cs.map cv).take (cs.length - (k + 1)) = (cs.map cv).take (cs.length - (k + 1)) := rfl
  have t4 : ((cs.drop (k + 1)).map cv).take (cs.length - (k + 1)) = (cs.drop (k + 1)).map cv := List.take_of_length_le (by simp)
  have t5 : ∀ a : List Clu, flat (a.map cv) = cells a := fun a => rfl
  have t6 := cells_length (cs.take k)
  have t7 := cells_length (cs.drop (k + 1))
  have l1 : (cs.take k).length = k := by simp; omega
  have l2 : (cs.drop (k + 1)).length = cs.length - (k + 1) := by simp
  obtain ⟨z1, z2⟩ : k * 24 ≤ 140737488355328 ∧ (k + (cs.length - (k + 1))) * 24 ≤ 140737488355328 := ⟨room (by omega), room (by omega)⟩
  try (simp (decide := true) only [ax, tabs, s0, Int.reduceToNat])
  repeat (first
    | refine AW.seq ?_
    | refine AW.blockS ?_
    | ((first | refine AW.skip ?_ | refine AW.exit ?_ | refine AW.opsN rfl ?_ | refine AW.ret ?_); try (simp (decide := true) only [ax, tabs, s0, Int.reduceToNat]))
    | (refine AW.condT ?_ ?_; (focus (simp (decide := true) only [ax, tabs, s0, Int.reduceToNat]; done)))
    | (refine AW.condF ?_ ?_; (focus (simp (decide := true) only [ax, tabs, s0, Int.reduceToNat]; done))))
  repeat refine AW.seq ?_
  refine AW.draw Emix [1, 2, 2, 2, 1, 2, 2, 2, 2] [0, 0, 0, 6, 15, 0, 0, 64, 224, 511, 1023] (by kernel_rfl) ?_
  simp (decide := true) only [ax, axd, tabs, s0, Int.reduceToNat, k0, k1, w1, List.length_map, t1, t2, t4, t5, l1, l2, cells_all, t6, t7, z1, z2, Nat.sub_zero]
  refine ⟨Nat.le_refl _, ?_⟩
  have e0 := drop1_length hk
  have e1 : k + (cs.length - (k + 1)) = (drop1 cs k).length := by omega
  have e2 : k * 3 + (cs.length - (k + 1)) * 3 = (drop1 cs k).length * 3 := by omega
  rw [e1, e2]
  try (simp (decide := true) only [ax, tabs, s0, Int.reduceToNat])
  repeat (first
    | refine AW.seq ?_
    | refine AW.blockS ?_
    | ((first | refine AW.skip ?_ | refine AW.exit ?_ | refine AW.opsN rfl ?_ | refine AW.ret ?_); try (simp (decide := true) only [ax, tabs, s0, Int.reduceToNat]))
    | (refine AW.condT ?_ ?_; (focus (simp (decide := true) only [ax, tabs, s0, Int.reduceToNat]; done)))
    | (refine AW.condF ?_ ?_; (focus (simp (decide := true) only [ax, tabs, s0, Int.reduceToNat]; done))))
  refine left (.inr rfl) hcl (Nat.le_refl _) (by simp (decide := true) only [ax, tabs, s0, Int.reduceToNat]; rfl) ?_ ⟨rfl, rfl⟩
  try (simp (decide := true) only [ax, tabs, s0, Int.reduceToNat])
  exact tell_clues (by simp [drop1, cells_append]) (Nat.le_refl _)
theorem pzSolved_ok (p : Nat) (hp : 1 ≤ p ∧ p ≤ 4) (cs : List Clu) (M : List AO) (hcs : cs.length ≤ 2000000) (hv : ∀ c ∈ cs, isClueF p c = true) :
    AC E 64 [iv p, .fz 3 (cs.map cv)] M (fun r M' => r = .bool (decide ((hidL p cs).length = 1)) ∧ M' = M) := by
  refine AC.body (fn := Tryz.f64) Tryz.func64 rfl rfl (by simp [Tryz.f64]) fun hcl => ?_
  simp only [Tryz.f64]
  try (simp (decide := true) only [ax, tabs, s0, Int.reduceToNat])
  repeat (first
    | refine AW.seq ?_
    | refine AW.blockS ?_
    | ((first | refine AW.skip ?_ | refine AW.exit ?_ | refine AW.opsN rfl ?_ | refine AW.ret ?_); try (simp (decide := true) only [ax, tabs, s0, Int.reduceToNat]))
    | (refine AW.condT ?_ ?_; (focus (simp (decide := true) only [ax, tabs, s0, Int.reduceToNat]; done)))
    | (refine AW.condF ?_ ?_; (focus (simp (decide := true) only [ax, tabs, s0, Int.reduceToNat]; done))))
  refine AC.det (pzAll_ok p hp cs _ hcs hv) ?_
  try (simp (decide := true) only [ax, tabs, s0, Int.reduceToNat])
  try (simp (decide := true) only [ax, tabs, s0, Int.reduceToNat])
  repeat (first
    | refine AW.seq ?_
    | refine AW.blockS ?_
    | ((first | refine AW.skip ?_ | refine AW.exit ?_ | refine AW.opsN rfl ?_ | refine AW.ret ?_); try (simp (decide := true) only [ax, tabs, s0, Int.reduceToNat]))
    | (refine AW.condT ?_ ?_; (focus (simp (decide := true) only [ax, tabs, s0, Int.reduceToNat]; done)))
    | (refine AW.condF ?_ ?_; (focus (simp (decide := true) only [ax, tabs, s0, Int.reduceToNat]; done))))
  first
    | refine leftJ (.inr rfl) hcl (Nat.le_refl _) (by simp (decide := true) only [ax, tabs, s0, Int.reduceToNat]; rfl) ?_ rfl ⟨rfl, rfl⟩
    | refine leftS (.inr rfl) hcl (Nat.le_refl _) (by simp (decide := true) only [ax, tabs, s0, Int.reduceToNat]; rfl) ?_ rfl ⟨rfl, rfl⟩
  simp (decide := true) only [ax, tabs, s0, Int.reduceToNat, List.length_map]
  congr 1
  by_cases h : (hidL p cs).length = 1
  · rw [decide_eq_true h, decide_eq_true (by omega)]
  · rw [decide_eq_false h, decide_eq_false (by omega)]
theorem count_ok (p : Nat) (hp : 1 ≤ p ∧ p ≤ 4) (cs : List Clu) (M : List AO) (hcs : cs.length ≤ 2000000) (hc0 : ∀ c ∈ cs, 0 ≤ c.2.1) :
    AC E 70 [pv p cs] M (fun r M' => r = iv (hidL p cs).length ∧ M' = M) := by
  refine AC.body (fn := Tryz.f70) Tryz.func70 rfl rfl (by simp [Tryz.f70]) fun hcl => ?_
  simp only [Tryz.f70]
  try (simp (decide := true) only [ax, tabs, s0, Int.reduceToNat, pv])
  repeat (first
    | refine AW.seq ?_
    | refine AW.blockS ?_
    | ((first | refine AW.skip ?_ | refine AW.exit ?_ | refine AW.opsN rfl ?_ | refine AW.ret ?_); try (simp (decide := true) only [ax, tabs, s0, Int.reduceToNat, pv]))
    | (refine AW.condT ?_ ?_; (focus (simp (decide := true) only [ax, tabs, s0, Int.reduceToNat, pv]; done)))
    | (refine AW.condF ?_ ?_; (focus (simp (decide := true) only [ax, tabs, s0, Int.reduceToNat, pv]; done))))
  refine AC.det (hidden_ok p cs _ hcs hc0 hp) ?_
  try (simp (decide := true) only [ax, tabs, s0, Int.reduceToNat])
  try (simp (decide := true) only [ax, tabs, s0, Int.reduceToNat])
  repeat (first
    | refine AW.seq ?_
    | refine AW.blockS ?_
    | ((first | refine AW.skip ?_ | refine AW.exit ?_ | refine AW.opsN rfl ?_ | refine AW.ret ?_); try (simp (decide := true) only [ax, tabs, s0, Int.reduceToNat]))
    | (refine AW.condT ?_ ?_; (focus (simp (decide := true) only [ax, tabs, s0, Int.reduceToNat]; done)))
    | (refine AW.condF ?_ ?_; (focus (simp (decide := true) only [ax, tabs, s0, Int.reduceToNat]; done))))
  first
    | refine leftJ (.inr rfl) hcl (Nat.le_refl _) (by simp (decide := true) only [ax, tabs, s0, Int.reduceToNat]; rfl) ?_ rfl ⟨rfl, rfl⟩
    | refine leftS (.inr rfl) hcl (Nat.le_refl _) (by simp (decide := true) only [ax, tabs, s0, Int.reduceToNat]; rfl) ?_ rfl ⟨rfl, rfl⟩
  simp (decide := true) only [ax, tabs, s0, Int.reduceToNat, List.length_map]
theorem without_ok (p : Int) (cs : List Clu) (k : Nat) (M : List AO) (hk : k < cs.length) (hl : cs.length ≤ 1000) :
    AC E 69 [pv p cs, iv k] M (fun r M' => r = .agg [iv p, .sl 3 (M.length + 2) 0 (cs.length - 1) (cs.length * 3)] ∧ M'[M.length + 2]? = some (.mem (cells (drop1 cs k) ++ [iv 0, iv 0, iv 0])) ∧ ∃ J, M' = M ++ J) := by
  refine AC.body (fn := Tryz.f69) Tryz.func69 rfl rfl (by simp [Tryz.f69]) fun hcl => ?_
  simp only [Tryz.f69]
  have w1 : IntKind.i64.wrap ((k : Int) + 1) = ((k + 1 : Nat) : Int) := wrap_succ (by omega)
  try (simp (decide := true) only [ax, tabs, s0, Int.reduceToNat, pv])
  repeat (first
    | refine AW.seq ?_
    | refine AW.blockS ?_
    | ((first | refine AW.skip ?_ | refine AW.exit ?_ | refine AW.opsN rfl ?_ | refine AW.ret ?_); try (simp (decide := true) only [ax, tabs, s0, Int.reduceToNat, pv]))
    | (refine AW.condT ?_ ?_; (focus (simp (decide := true) only [ax, tabs, s0, Int.reduceToNat, pv]; done)))
    | (refine AW.condF ?_ ?_; (focus (simp (decide := true) only [ax, tabs, s0, Int.reduceToNat, pv]; done))))
  repeat refine AW.seq ?_
  refine AW.draw Emix [3, 3, 0, 0, 1, 2, 2, 2, 1] [0, 1, 0, 4, 12, 0, 0, 64, 252, 511, 1023] (by kernel_rfl) ?_
  simp (decide := true) only [ax, axd, tabs, s0, Int.reduceToNat, w1]
  refine ⟨_, _, CloneClue_sl cs _ (by omega) (by intro h; rw [h] at hk; cases hk), ?_⟩
  simp (decide := true) only [ax, axd, tabs, s0, Int.reduceToNat, w1]
  refine ⟨_, _, DeleteClue_ok cs k _ _ hk (by omega) (by simp), ?_⟩
  simp (decide := true) only [ax, axd, tabs, s0, Int.reduceToNat, w1]
  try (simp (decide := true) only [ax, tabs, s0, Int.reduceToNat])
  repeat (first
    | refine AW.seq ?_
    | refine AW.blockS ?_
    | ((first | refine AW.skip ?_ | refine AW.exit ?_ | refine AW.opsN rfl ?_ | refine AW.ret ?_); try (simp (decide := true) only [ax, tabs, s0, Int.reduceToNat]))
    | (refine AW.condT ?_ ?_; (focus (simp (decide := true) only [ax, tabs, s0, Int.reduceToNat]; done)))
    | (refine AW.condF ?_ ?_; (focus (simp (decide := true) only [ax, tabs, s0, Int.reduceToNat]; done))))
  refine leftN (.inr rfl) (by simp) (by simp (decide := true) only [ax, tabs, s0, Int.reduceToNat]; rfl) rfl ?_ ⟨rfl, by simp, _, rfl⟩
  exact .agg2 (.int _ _) (.sl _ _ _ _ _ (by simp))
theorem without_fz (p : Int) (cs : List Clu) (k : Nat) (M : List AO) (hk : k < cs.length) (hl : cs.length ≤ 1000) :
    AC E 69 [pv p cs, iv k] M (fun r M' => r = pv p (drop1 cs k) ∧ M' = M) :=
  .freeze ((without_ok p cs k M hk hl).mono fun r M' ⟨h1, h2, J, h3⟩ => by
    subst h3
    refine ⟨J, _, rfl, ?_, rfl, rfl⟩
    rw [h1]
    refine tell_agg (.cons (tell_eq rfl (.int _ _)) (.cons ?_ .nil))
    have e0 := drop1_length hk
    have := tell_pre (M' := M ++ J) (n := M.length) (ds := drop1 cs k) h2 (by omega)
    rw [List.length_append, cells_length, e0] at this
    have e1 : (cs.length - 1) * 3 + [iv 0, iv 0, iv 0].length = cs.length * 3 := by simp; omega
    rw [e1] at this; exact this)
theorem Solutions_ok (p : Int) (cs : List Clu) (M : List AO) (hl : cs.length ≤ 2000000) : AC E 104 [pv p cs] M (fun r M' => r = (if isPuzF p cs = true then .tup [.fz 1 ((hidL p.toNat cs).map fzi), .bool true] else .tup [.fz 1 [], .bool false]) ∧ M' = M) := by
  refine AC.body (fn := Tryz.f104) Tryz.func104 rfl rfl (by simp [Tryz.f104]) fun hcl => ?_
  simp only [Tryz.f104]
  try (simp (decide := true) only [ax, tabs, s0, Int.reduceToNat, pv])
  repeat (first
    | refine AW.seq ?_
    | refine AW.blockS ?_
    | ((first | refine AW.skip ?_ | refine AW.exit ?_ | refine AW.opsN rfl ?_ | refine AW.ret ?_); try (simp (decide := true) only [ax, tabs, s0, Int.reduceToNat, pv]))
    | (refine AW.condT ?_ ?_; (focus (simp (decide := true) only [ax, tabs, s0, Int.reduceToNat, pv]; done)))
    | (refine AW.condF ?_ ?_; (focus (simp (decide := true) only [ax, tabs, s0, Int.reduceToNat, pv]; done))))
  refine AC.det (IsPuzzle_ok p cs _ hl) ?_
  cases hv : isPuzF p cs with
  | false =>
    try (simp (decide := true) only [ax, tabs, s0, Int.reduceToNat])
    repeat (first
      | refine AW.seq ?_
      | refine AW.blockS ?_
      | ((first | refine AW.skip ?_ | refine AW.exit ?_ | refine AW.opsN rfl ?_ | refine AW.ret ?_); try (simp (decide := true) only [ax, tabs, s0, Int.reduceToNat]))
      | (refine AW.condT ?_ ?_; (focus (simp (decide := true) only [ax, tabs, s0, Int.reduceToNat]; done)))
      | (refine AW.condF ?_ ?_; (focus (simp (decide := true) only [ax, tabs, s0, Int.reduceToNat]; done))))
    refine left (.inr rfl) hcl (Nat.le_refl _) (by simp (decide := true) only [ax, tabs, s0, Int.reduceToNat]; rfl) ?_ ⟨rfl, rfl⟩
    try (simp (decide := true) only [ax, tabs, s0, Int.reduceToNat])
    exact tell_tup (.cons (.nil 1) (.cons (.scal rfl) .nil))
  | true =>
    obtain ⟨n, rfl, h1, h4, h6, hv1, hv2⟩ := isPuzF_dec hv
    try (simp (decide := true) only [ax, tabs, s0, Int.reduceToNat])
    repeat (first
      | refine AW.seq ?_
      | refine AW.blockS ?_
      | ((first | refine AW.skip ?_ | refine AW.exit ?_ | refine AW.opsN rfl ?_ | refine AW.ret ?_); try (simp (decide := true) only [ax, tabs, s0, Int.reduceToNat]))
      | (refine AW.condT ?_ ?_; (focus (simp (decide := true) only [ax, tabs, s0, Int.reduceToNat]; done)))
      | (refine AW.condF ?_ ?_; (focus (simp (decide := true) only [ax, tabs, s0, Int.reduceToNat]; done))))
    refine AC.det (hidden_ok n cs _ hl hv2 ⟨h1, h4⟩) ?_
    try (simp (decide := true) only [ax, tabs, s0, Int.reduceToNat])
    try (simp (decide := true) only [ax, tabs, s0, Int.reduceToNat])
    repeat (first
      | refine AW.seq ?_
      | refine AW.blockS ?_
      | ((first | refine AW.skip ?_ | refine AW.exit ?_ | refine AW.opsN rfl ?_ | refine AW.ret ?_); try (simp (decide := true) only [ax, tabs, s0, Int.reduceToNat]))
      | (refine AW.condT ?_ ?_; (focus (simp (decide := true) only [ax, tabs, s0, Int.reduceToNat]; done)))
      | (refine AW.condF ?_ ?_; (focus (simp (decide := true) only [ax, tabs, s0, Int.reduceToNat]; done))))
    refine left (.inr rfl) hcl (Nat.le_refl _) (by simp (decide := true) only [ax, tabs, s0, Int.reduceToNat]; rfl) ?_ ⟨rfl, rfl⟩
    try (simp (decide := true) only [ax, tabs, s0, Int.reduceToNat])
    exact tell_tup (.cons (.same _ (.fz _ _ (Els.fzi _ _).cl)) (.cons (.scal rfl) .nil))
theorem CountSolutions_ok (p : Int) (cs : List Clu) (M : List AO) (hl : cs.length ≤ 2000000) : AC E 91 [pv p cs] M (fun r M' => r = (if isPuzF p cs = true then .tup [iv (hidL p.toNat cs).length, .bool true] else .tup [iv 0, .bool false]) ∧ M' = M) := by
  refine AC.body (fn := Tryz.f91) Tryz.func91 rfl rfl (by simp [Tryz.f91]) fun hcl => ?_
  simp only [Tryz.f91]
  try (simp (decide := true) only [ax, tabs, s0, Int.reduceToNat, pv])
  repeat (first
    | refine AW.seq ?_
    | refine AW.blockS ?_
    | ((first | refine AW.skip ?_ | refine AW.exit ?_ | refine AW.opsN rfl ?_ | refine AW.ret ?_); try (simp (decide := true) only [ax, tabs, s0, Int.reduceToNat, pv]))
    | (refine AW.condT ?_ ?_; (focus (simp (decide := true) only [ax, tabs, s0, Int.reduceToNat, pv]; done)))
    | (refine AW.condF ?_ ?_; (focus (simp (decide := true) only [ax, tabs, s0, Int.reduceToNat, pv]; done))))
  refine AC.det (Solutions_ok p cs _ hl) ?_
  cases hv : isPuzF p cs with
  | false =>
    try (simp (decide := true) only [ax, tabs, s0, Int.reduceToNat])
    repeat (first
      | refine AW.seq ?_
      | refine AW.blockS ?_
      | ((first | refine AW.skip ?_ | refine AW.exit ?_ | refine AW.opsN rfl ?_ | refine AW.ret ?_); try (simp (decide := true) only [ax, tabs, s0, Int.reduceToNat]))
      | (refine AW.condT ?_ ?_; (focus (simp (decide := true) only [ax, tabs, s0, Int.reduceToNat]; done)))
      | (refine AW.condF ?_ ?_; (focus (simp (decide := true) only [ax, tabs, s0, Int.reduceToNat]; done))))
    first
      | refine leftJ (.inr rfl) hcl (Nat.le_refl _) (by simp (decide := true) only [ax, tabs, s0, Int.reduceToNat]; rfl) ?_ rfl ⟨rfl, rfl⟩
      | refine leftS (.inr rfl) hcl (Nat.le_refl _) (by simp (decide := true) only [ax, tabs, s0, Int.reduceToNat]; rfl) ?_ rfl ⟨rfl, rfl⟩
    simp (decide := true) only [ax, tabs, s0, Int.reduceToNat, List.length_nil]
    rfl
  | true =>
    try (simp (decide := true) only [ax, tabs, s0, Int.reduceToNat])
    repeat (first
      | refine AW.seq ?_
      | refine AW.blockS ?_
      | ((first | refine AW.skip ?_ | refine AW.exit ?_ | refine AW.opsN rfl ?_ | refine AW.ret ?_); try (simp (decide := true) only [ax, tabs, s0, Int.reduceToNat]))
      | (refine AW.condT ?_ ?_; (focus (simp (decide := true) only [ax, tabs, s0, Int.reduceToNat]; done)))
      | (refine AW.condF ?_ ?_; (focus (simp (decide := true) only [ax, tabs, s0, Int.reduceToNat]; done))))
    first
      | refine leftJ (.inr rfl) hcl (Nat.le_refl _) (by simp (decide := true) only [ax, tabs, s0, Int.reduceToNat]; rfl) ?_ rfl ⟨rfl, rfl⟩
      | refine leftS (.inr rfl) hcl (Nat.le_refl _) (by simp (decide := true) only [ax, tabs, s0, Int.reduceToNat]; rfl) ?_ rfl ⟨rfl, rfl⟩
    simp (decide := true) only [ax, tabs, s0, Int.reduceToNat, List.length_map]
theorem IsSolved_ok (p : Int) (cs : List Clu) (M : List AO) (hl : cs.length ≤ 2000000) : AC E 67 [pv p cs] M (fun r M' => r = (if isPuzF p cs = true then .tup [.bool (decide ((hidL p.toNat cs).length = 1)), .bool true] else .tup [.bool false, .bool false]) ∧ M' = M) := by
  refine AC.body (fn := Tryz.f67) Tryz.func67 rfl rfl (by simp [Tryz.f67]) fun hcl => ?_
  simp only [Tryz.f67]
  try (simp (decide := true) only [ax, tabs, s0, Int.reduceToNat, pv])
  repeat (first
    | refine AW.seq ?_
    | refine AW.blockS ?_
    | ((first | refine AW.skip ?_ | refine AW.exit ?_ | refine AW.opsN rfl ?_ | refine AW.ret ?_); try (simp (decide := true) only [ax, tabs, s0, Int.reduceToNat, pv]))
    | (refine AW.condT ?_ ?_; (focus (simp (decide := true) only [ax, tabs, s0, Int.reduceToNat, pv]; done)))
    | (refine AW.condF ?_ ?_; (focus (simp (decide := true) only [ax, tabs, s0, Int.reduceToNat, pv]; done))))
  refine AC.det (CountSolutions_ok p cs _ hl) ?_
  cases hv : isPuzF p cs with
  | false =>
    try (simp (decide := true) only [ax, tabs, s0, Int.reduceToNat])
    repeat (first
      | refine AW.seq ?_
      | refine AW.blockS ?_
      | ((first | refine AW.skip ?_ | refine AW.exit ?_ | refine AW.opsN rfl ?_ | refine AW.ret ?_); try (simp (decide := true) only [ax, tabs, s0, Int.reduceToNat]))
      | (refine AW.condT ?_ ?_; (focus (simp (decide := true) only [ax, tabs, s0, Int.reduceToNat]; done)))
      | (refine AW.condF ?_ ?_; (focus (simp (decide := true) only [ax, tabs, s0, Int.reduceToNat]; done))))
    first
      | refine leftJ (.inr rfl) hcl (Nat.le_refl _) (by simp (decide := true) only [ax, tabs, s0, Int.reduceToNat]; rfl) ?_ rfl ⟨rfl, rfl⟩
      | refine leftS (.inr rfl) hcl (Nat.le_refl _) (by simp (decide := true) only [ax, tabs, s0, Int.reduceToNat]; rfl) ?_ rfl ⟨rfl, rfl⟩
    simp (decide := true) only [ax, tabs, s0, Int.reduceToNat]
  | true =>
    have hd : decide (((hidL p.toNat cs).length : Int) = 1) = decide ((hidL p.toNat cs).length = 1) := by
      by_cases h : (hidL p.toNat cs).length = 1
      · rw [decide_eq_true h, decide_eq_true (by omega)]
      · rw [decide_eq_false h, decide_eq_false (by omega)]
    try (simp (decide := true) only [ax, tabs, s0, Int.reduceToNat, hd])
    repeat (first
      | refine AW.seq ?_
      | refine AW.blockS ?_
      | ((first | refine AW.skip ?_ | refine AW.exit ?_ | refine AW.opsN rfl ?_ | refine AW.ret ?_); try (simp (decide := true) only [ax, tabs, s0, Int.reduceToNat, hd]))
      | (refine AW.condT ?_ ?_; (focus (simp (decide := true) only [ax, tabs, s0, Int.reduceToNat, hd]; done)))
      | (refine AW.condF ?_ ?_; (focus (simp (decide := true) only [ax, tabs, s0, Int.reduceToNat, hd]; done))))
    first
      | refine leftJ (.inr rfl) hcl (Nat.le_refl _) (by simp (decide := true) only [ax, tabs, s0, Int.reduceToNat]; rfl) ?_ rfl ⟨rfl, rfl⟩
      | refine leftS (.inr rfl) hcl (Nat.le_refl _) (by simp (decide := true) only [ax, tabs, s0, Int.reduceToNat]; rfl) ?_ rfl ⟨rfl, rfl⟩
    simp (decide := true) only [ax, tabs, s0, Int.reduceToNat]
end Go.Ax
