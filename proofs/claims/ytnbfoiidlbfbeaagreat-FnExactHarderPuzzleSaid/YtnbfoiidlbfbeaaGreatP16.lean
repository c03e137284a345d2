/- Lists that do not fall; hidden times that fit clues. -/
import Derived.Test.YtnbfoiidlbfbeaaGreatP15
set_option linter.unusedVariables false
set_option linter.unusedSimpArgs false
namespace Go.Ax
open Go.Proofs

theorem Foot.lt {oo q : Nat} {M : List AO} (X : List AO) (hcl : ClM M) (ho : oo < M.length) (h : Foot oo (M ++ X) q) : q < M.length := by
  rcases h with rfl | ⟨k, off, len, g, h⟩
  · exact ho
  · rw [List.getElem?_append_left ho] at h
    have := hcl _ _ h 0 _ rfl
    cases this; assumption
theorem Stay.new {oo b : Nat} {M X : List AO} {x : AO} (hcl : ClM M) (ho : oo < M.length) (hb : (M ++ X)[b]? = some x) (hge : M.length ≤ b) : Stay oo (M ++ X) b x :=
  ⟨hb, fun h => by have := h.lt X hcl ho; omega⟩
theorem notFalling_ok {σ : Type} {g : FuncId} {caps : List AV} {oo : Nat} {J : Nat → σ → List AO → Prop} {step : σ → List Int → σ × Bool} (most : Int) (many : Nat) (hm : 0 ≤ most ∧ most ≤ 1000) (hn : many ≤ 1000) (hm1 : 1 ≤ many)
    (cb : CB g caps oo J step fun l => l.length = many ∧ ∀ x ∈ l, 1 ≤ x ∧ x ≤ most) (n : Nat) (s : σ) (M : List AO) (hJ : J (most.toNat ^ many + n) s M) :
    AC E 56 [iv many, iv most, .fn g caps] M (fun r M' => r = .tup [] ∧ J n (nfL step most many [] s).1 M' ∧ Chg oo M M') := by
  refine AC.body (fn := Tryz.f56) Tryz.func56 rfl rfl (by simp [Tryz.f56]) fun hcl => ?_
  simp only [Tryz.f56]
  have hoo := cb.box _ s M hJ
  try (simp (decide := true) only [ax, tabs, s0, Int.reduceToNat])
  repeat (first
    | refine AW.seq ?_
    | refine AW.blockS ?_
    | ((first | refine AW.skip ?_ | refine AW.exit ?_ | refine AW.opsN rfl ?_ | refine AW.ret ?_); try (simp (decide := true) only [ax, tabs, s0, Int.reduceToNat]))
    | (refine AW.condT ?_ ?_; (focus (simp (decide := true) only [ax, tabs, s0, Int.reduceToNat]; done)))
    | (refine AW.condF ?_ ?_; (focus (simp (decide := true) only [ax, tabs, s0, Int.reduceToNat]; done))))
  have hnew : ∀ (X : List AO) (b : Nat) (x : AO), (M ++ X)[b]? = some x → M.length ≤ b → Stay oo (M ++ X) b x := fun X b x h1 h2 => .new hcl hoo h1 h2
  have on := nfOn_ok most many hm hn cb M.length (M.length + 2) (M.length + 1) (M.length + 3) many n [] s (M ++ [.mem [iv many], .mem [iv most], .mem [.fn g caps], .mem [.fn 86 [.ptr M.length 0 1, .ptr (M.length + 2) 0 1, .ptr (M.length + 1) 0 1, .ptr (M.length + 3) 0 1]]])
    (by simp) hm1 (fun x hx => by cases hx) (cb.junk _ _ _ _ hJ) (hnew _ _ _ (by simp) (by omega)) (hnew _ _ _ (by simp) (by omega)) (hnew _ _ _ (by simp) (by omega)) (hnew _ _ _ (by simp) (by omega))
  refine on.mono ?_
  rintro _ M' ⟨rfl, hJ', hC⟩
  try (simp (decide := true) only [ax, tabs, s0, Int.reduceToNat])
  repeat (first
    | refine AW.seq ?_
    | refine AW.blockS ?_
    | ((first | refine AW.skip ?_ | refine AW.exit ?_ | refine AW.opsN rfl ?_ | refine AW.ret ?_); try (simp (decide := true) only [ax, tabs, s0, Int.reduceToNat]))
    | (refine AW.condT ?_ ?_; (focus (simp (decide := true) only [ax, tabs, s0, Int.reduceToNat]; done)))
    | (refine AW.condF ?_ ?_; (focus (simp (decide := true) only [ax, tabs, s0, Int.reduceToNat]; done))))
  have hC2 := (Chg.junk hoo _).trans hC
  have := hC2.len
  refine leftN (r := .tup []) (.inl rfl) (by omega) (by simp (decide := true) only [ax, tabs, s0, Int.reduceToNat]; rfl) (by simp (decide := true) only [ax, tabs, s0, Int.reduceToNat]) (.of_scal rfl) ⟨rfl, hJ', hC2⟩
theorem app_obj {M : List AO} {o : Nat} {x : AO} (h : M[o]? = some x) (X : List AO) : (M ++ X)[o]? = some x := by rw [List.getElem?_append_left (lt_of_obj h)]; exact h
/-- The lists that grow in a box. -/
def OutB (oo : Nat) (L : List (List Int)) (M : List AO) : Prop := (L = [] ∧ M[oo]? = some (.mem [.nils])) ∨ ∃ ot, ot ≠ oo ∧ M[oo]? = some (.mem [.sl 1 ot 0 L.length L.length]) ∧ M[ot]? = some (.mem (L.map fzi))
theorem OutB.lt {oo : Nat} {L : List (List Int)} {M : List AO} (h : OutB oo L M) : oo < M.length := by
  rcases h with ⟨_, h⟩ | ⟨ot, _, h, _⟩ <;> exact lt_of_obj h
theorem OutB.junk {oo : Nat} {L : List (List Int)} {M : List AO} (h : OutB oo L M) (X : List AO) : OutB oo L (M ++ X) := by
  rcases h with ⟨h1, h⟩ | ⟨ot, h0, h, h2⟩
  · exact .inl ⟨h1, by rw [List.getElem?_append_left (lt_of_obj h)]; exact h⟩
  · exact .inr ⟨ot, h0, by rw [List.getElem?_append_left (lt_of_obj h)]; exact h, by rw [List.getElem?_append_left (lt_of_obj h2)]; exact h2⟩
/-- All clues that fit. -/
def fitAll (cs : List Clu) (l : List Int) : Bool := !cs.any fun c => !fitsF c l
def hidStep (cs : List Clu) (L : List (List Int)) (l : List Int) : List (List Int) × Bool := (if fitAll cs l = true then L ++ [l] else L, true)
theorem Foot.ot {oo ot : Nat} {L : List (List Int)} {M : List AO} (h : M[oo]? = some (.mem [.sl 1 ot 0 L.length L.length])) {q : Nat} (hf : ¬ Foot oo M q) : q ≠ ot ∧ q ≠ oo :=
  ⟨fun e => hf (.inr ⟨1, 0, L.length, L.length, by rw [e]; exact h⟩), fun e => hf (.inl e)⟩
/-- One more list in the box. -/
theorem OutB.add_nil {oo : Nat} {M : List AO} (X : List AO) (l : List Int) (h : M[oo]? = some (.mem [.nils])) (a : AV) (ha : a = .sl 1 (M ++ X).length 0 1 1) :
    OutB oo [l] ((M ++ X ++ [AO.mem [fzi l]]).set oo (.mem [a])) ∧ Chg oo M ((M ++ X ++ [AO.mem [fzi l]]).set oo (.mem [a])) := by
  have hlt := lt_of_obj h
  have hlt2 : oo < (M ++ X ++ [AO.mem [fzi l]]).length := by simp; omega
  subst ha
  refine ⟨.inr ⟨(M ++ X).length, by simp; omega, by rw [List.getElem?_set_self hlt2]; rfl, ?_⟩, by simp, fun q hq hf => ?_, fun q hf => ?_⟩
  · rw [List.getElem?_set_ne (by simp; omega)]; simp
  · rw [List.getElem?_set_ne (fun e => hf (.inl e.symm)), List.append_assoc, List.getElem?_append_left hq]
  · rcases hf with rfl | ⟨k, off, len, g, hf⟩
    · exact .inl (.inl rfl)
    · rw [List.getElem?_set_self hlt2] at hf
      injection hf with hf; injection hf with hf; injection hf with hf; injection hf with _ hf
      exact .inr (by rw [← hf]; simp)
theorem OutB.add_row {oo ot : Nat} {M : List AO} (X : List AO) (l : List Int) (L : List (List Int)) (hne : ot ≠ oo) (h : M[oo]? = some (.mem [.sl 1 ot 0 L.length L.length])) (hr : M[ot]? = some (.mem (L.map fzi))) (cs : List AV) (hcs : cs = (L ++ [l]).map fzi) :
    OutB oo (L ++ [l]) (((M ++ X).set ot (.mem cs)).set oo (.mem [.sl 1 ot 0 (L.length + 1) (L.length + 1)])) ∧ Chg oo M (((M ++ X).set ot (.mem cs)).set oo (.mem [.sl 1 ot 0 (L.length + 1) (L.length + 1)])) := by
  have hlt := lt_of_obj h
  have hlt2 : oo < ((M ++ X).set ot (AO.mem cs)).length := by simp; omega
  have hlt3 : ot < (M ++ X).length := by have := lt_of_obj hr; simp; omega
  subst hcs
  refine ⟨.inr ⟨ot, hne, by rw [List.getElem?_set_self hlt2]; simp, ?_⟩, by simp, fun q hq hf => ?_, fun q hf => ?_⟩
  · rw [List.getElem?_set_ne (Ne.symm hne), List.getElem?_set_self hlt3]
  · obtain ⟨n1, n2⟩ := Foot.ot h hf
    rw [List.getElem?_set_ne (Ne.symm n2), List.getElem?_set_ne (Ne.symm n1), List.getElem?_append_left hq]
  · rcases hf with rfl | ⟨k, off, len, g, hf⟩
    · exact .inl (.inl rfl)
    · rw [List.getElem?_set_self hlt2] at hf
      injection hf with hf; injection hf with hf; injection hf with hf; injection hf with _ hf
      exact .inl (.inr ⟨1, 0, L.length, L.length, by rw [← hf]; exact h⟩)
theorem hidden1_ok (cs : List Clu) (hcs : cs.length ≤ 2000000) (hc0 : ∀ c ∈ cs, 0 ≤ c.2.1) (cbx oo : Nat) (L : List (List Int)) (l : List Int) (M : List AO) (hO : OutB oo L M) (hL : L.length ≤ 100000) (hS : Stay oo M cbx (.mem [.fz 3 (cs.map cv)])) (h0 : 1 ≤ l.length) (hl : l.length ≤ 12) (hts : ∀ t ∈ l, 0 ≤ t ∧ t ≤ 1000000) :
    AC E 105 [fzi l, .ptr cbx 0 1, .ptr oo 0 1] M (fun r M' => r = .bool true ∧ OutB oo (hidStep cs L l).1 M' ∧ Chg oo M M') := by
  refine AC.body (fn := Tryz.f105) Tryz.func105 rfl rfl (by simp [Tryz.f105]) fun hcl => ?_
  simp only [Tryz.f105]
  have hoo := hO.lt
  have u1 := fun X => hS.junk hoo X
  try (simp (decide := true) only [ax, tabs, s0, Int.reduceToNat, fzi, u1])
  repeat (first
    | refine AW.seq ?_
    | refine AW.blockS ?_
    | ((first | refine AW.skip ?_ | refine AW.exit ?_ | refine AW.opsN rfl ?_ | refine AW.ret ?_); try (simp (decide := true) only [ax, tabs, s0, Int.reduceToNat, fzi, u1]))
    | (refine AW.condT ?_ ?_; (focus (simp (decide := true) only [ax, tabs, s0, Int.reduceToNat, fzi, u1]; done)))
    | (refine AW.condF ?_ ?_; (focus (simp (decide := true) only [ax, tabs, s0, Int.reduceToNat, fzi, u1]; done))))
  refine AC.det (ContainsClue_ok cs _ _ (fun c => !fitsF c l) _ hcs (fun c hc => hidden11_ok c l M.length _ (by simp) h0 hl hts (hc0 c hc))) ?_
  try (simp (decide := true) only [ax, tabs, s0, Int.reduceToNat])
  repeat (first
    | refine AW.seq ?_
    | refine AW.blockS ?_
    | ((first | refine AW.skip ?_ | refine AW.exit ?_ | refine AW.opsN rfl ?_ | refine AW.ret ?_); try (simp (decide := true) only [ax, tabs, s0, Int.reduceToNat]))
    | (refine AW.condT ?_ ?_; (focus (simp (decide := true) only [ax, tabs, s0, Int.reduceToNat]; done)))
    | (refine AW.condF ?_ ?_; (focus (simp (decide := true) only [ax, tabs, s0, Int.reduceToNat]; done))))
  have hs : (hidStep cs L l).1 = if fitAll cs l = true then L ++ [l] else L := rfl
  rw [hs]
  unfold fitAll
  cases hb : cs.any fun c => !fitsF c l with
  | true =>
    try (simp (decide := true) only [ax, tabs, s0, Int.reduceToNat])
    repeat (first
      | refine AW.seq ?_
      | refine AW.blockS ?_
      | ((first | refine AW.skip ?_ | refine AW.exit ?_ | refine AW.opsN rfl ?_ | refine AW.ret ?_); try (simp (decide := true) only [ax, tabs, s0, Int.reduceToNat]))
      | (refine AW.condT ?_ ?_; (focus (simp (decide := true) only [ax, tabs, s0, Int.reduceToNat]; done)))
      | (refine AW.condF ?_ ?_; (focus (simp (decide := true) only [ax, tabs, s0, Int.reduceToNat]; done))))
    refine leftN (.inr rfl) (by simp) (by simp (decide := true) only [ax, tabs, s0, Int.reduceToNat]; rfl) rfl (.of_scal rfl) ⟨rfl, ?_, Chg.junk hoo _⟩
    exact hO.junk _
  | false =>
    rcases hO with ⟨rfl, hn⟩ | ⟨ot, hne, hrow, hr⟩
    · have u2 := fun X => app_obj hn X
      try (simp (decide := true) only [ax, tabs, s0, Int.reduceToNat])
      repeat (first
        | refine AW.seq ?_
        | refine AW.blockS ?_
        | ((first | refine AW.skip ?_ | refine AW.exit ?_ | refine AW.opsN rfl ?_ | refine AW.ret ?_); try (simp (decide := true) only [ax, tabs, s0, Int.reduceToNat]))
        | (refine AW.condT ?_ ?_; (focus (simp (decide := true) only [ax, tabs, s0, Int.reduceToNat]; done)))
        | (refine AW.condF ?_ ?_; (focus (simp (decide := true) only [ax, tabs, s0, Int.reduceToNat]; done))))
      repeat refine AW.seq ?_
      refine AW.lits [0, 0, 2] ?_
      simp (decide := true) only [ax, axd, tabs, s0, Int.reduceToNat, u2]
      try (simp (decide := true) only [ax, tabs, s0, Int.reduceToNat])
      repeat (first
        | refine AW.seq ?_
        | refine AW.blockS ?_
        | ((first | refine AW.skip ?_ | refine AW.exit ?_ | refine AW.opsN rfl ?_ | refine AW.ret ?_); try (simp (decide := true) only [ax, tabs, s0, Int.reduceToNat]))
        | (refine AW.condT ?_ ?_; (focus (simp (decide := true) only [ax, tabs, s0, Int.reduceToNat]; done)))
        | (refine AW.condF ?_ ?_; (focus (simp (decide := true) only [ax, tabs, s0, Int.reduceToNat]; done))))
      obtain ⟨k1, k2⟩ := OutB.add_nil [.mem [fzi l]] l hn _ rfl
      simp only [List.append_assoc, List.length_append, List.length_cons, List.length_nil, Nat.zero_add, List.singleton_append, List.cons_append, List.nil_append] at k1 k2
      refine leftN (.inr rfl) (by simp) (by simp (decide := true) only [ax, tabs, s0, Int.reduceToNat]; rfl) rfl (.of_scal rfl) ⟨rfl, ?_, ?_⟩
      · exact k1
      · exact k2
    · have u2 := fun X => app_obj hrow X
      have u3 := fun X => app_obj hr X
      have z := room (n := L.length + 1) (by omega)
      have hlt3 := lt_of_obj hr
      have u4 : ∀ X x, ((M ++ X).set ot x)[oo]? = some (.mem [.sl 1 ot 0 L.length L.length]) := fun X x => by rw [List.getElem?_set_ne hne]; exact u2 X
      try (simp (decide := true) only [ax, tabs, s0, Int.reduceToNat])
      repeat (first
        | refine AW.seq ?_
        | refine AW.blockS ?_
        | ((first | refine AW.skip ?_ | refine AW.exit ?_ | refine AW.opsN rfl ?_ | refine AW.ret ?_); try (simp (decide := true) only [ax, tabs, s0, Int.reduceToNat]))
        | (refine AW.condT ?_ ?_; (focus (simp (decide := true) only [ax, tabs, s0, Int.reduceToNat]; done)))
        | (refine AW.condF ?_ ?_; (focus (simp (decide := true) only [ax, tabs, s0, Int.reduceToNat]; done))))
      repeat refine AW.seq ?_
      refine AW.lits [0, 0, 2] ?_
      simp (decide := true) only [ax, axd, tabs, s0, Int.reduceToNat, u2, u3, u4, z, List.length_map]
      try (simp (decide := true) only [ax, tabs, s0, Int.reduceToNat])
      repeat (first
        | refine AW.seq ?_
        | refine AW.blockS ?_
        | ((first | refine AW.skip ?_ | refine AW.exit ?_ | refine AW.opsN rfl ?_ | refine AW.ret ?_); try (simp (decide := true) only [ax, tabs, s0, Int.reduceToNat]))
        | (refine AW.condT ?_ ?_; (focus (simp (decide := true) only [ax, tabs, s0, Int.reduceToNat]; done)))
        | (refine AW.condF ?_ ?_; (focus (simp (decide := true) only [ax, tabs, s0, Int.reduceToNat]; done))))
      obtain ⟨k1, k2⟩ := OutB.add_row [.mem [fzi l]] l L hne hrow hr (List.map fzi L ++ [fzi l]) (by simp)
      refine leftN (.inr rfl) (by simp) (by simp (decide := true) only [ax, tabs, s0, Int.reduceToNat]; rfl) rfl (.of_scal rfl) ⟨rfl, ?_, ?_⟩
      · exact k1
      · exact k2
/-- All lists that go on from one, in order. -/
def nfGoL (k : Int → List (List Int)) : Nat → Int → List (List Int)
  | 0, _ => []
  | n + 1, x => k x ++ nfGoL k n (x + 1)
def nfAll (most : Int) : Nat → List Int → List (List Int)
  | 0, l => [l]
  | f + 1, l => nfGoL (fun x => nfAll most f (l ++ [x])) (most + 1 - leastF l).toNat (leastF l)
theorem nfL_all {σ : Type} (st : σ → List Int → σ) (most : Int) : ∀ (f : Nat) (l : List Int) (s : σ), nfL (fun s l => (st s l, true)) most f l s = ((nfAll most f l).foldl st s, true) := by
  intro f
  induction f with
  | zero => intro l s; rfl
  | succ f ih =>
    intro l s
    have key : ∀ (n : Nat) (x : Int) (s : σ), nfGo (fun x s => nfL (fun s l => (st s l, true)) most f (l ++ [x]) s) n x s = ((nfGoL (fun x => nfAll most f (l ++ [x])) n x).foldl st s, true) := by
      intro n
      induction n with
      | zero => intro x s; rfl
      | succ n ihn =>
        intro x s
        rw [nfGo, ih]
        simp only [if_true]
        rw [ihn, nfGoL, List.foldl_append]
    rw [nfL, key]; rfl
theorem hid_fold (cs : List Clu) (A L : List (List Int)) : A.foldl (fun L l => (hidStep cs L l).1) L = L ++ A.filter (fitAll cs) := by
  induction A generalizing L with
  | nil => simp
  | cons l A ih =>
    rw [List.foldl_cons, ih]
    simp only [hidStep]
    by_cases h : fitAll cs l = true
    · rw [if_pos h, List.filter_cons_of_pos h]; simp
    · rw [if_neg h, List.filter_cons_of_neg h]
/-- All hidden times of so many people that fit clues. -/
def hidL (p : Nat) (cs : List Clu) : List (List Int) := (nfAll 6 p []).filter (fitAll cs)
theorem hidStep_eq (cs : List Clu) : hidStep cs = fun L l => ((hidStep cs L l).1, true) := rfl
theorem hidden_cb (cs : List Clu) (hcs : cs.length ≤ 2000000) (hc0 : ∀ c ∈ cs, 0 ≤ c.2.1) (cbx oo p : Nat) (hp : 1 ≤ p ∧ p ≤ 4) :
    CB 105 [.ptr cbx 0 1, .ptr oo 0 1] oo (fun n L M => OutB oo L M ∧ L.length + n ≤ 100000 ∧ Stay oo M cbx (.mem [.fz 3 (cs.map cv)])) (hidStep cs) fun l => l.length = p ∧ ∀ x ∈ l, 1 ≤ x ∧ x ≤ (6 : Int) where
  box := fun n s M h => h.1.lt
  mono := fun n m s M h hm => ⟨h.1, by have := h.2.1; omega, h.2.2⟩
  junk := fun n s M X h => ⟨h.1.junk X, h.2.1, (Chg.junk h.1.lt X).stay h.2.2⟩
  call := fun n L M l h hl => (hidden1_ok cs hcs hc0 cbx oo L l M h.1 (by have := h.2.1; omega) h.2.2 (by omega) (by omega) (fun t ht => by have := hl.2 t ht; omega)).mono fun r M' ⟨h1, h2, h3⟩ =>
    ⟨h1, ⟨h2, by
      have := h.2.1
      simp only [hidStep]
      split
      · simp; omega
      · omega, h3.stay h.2.2⟩, h3⟩
theorem hidden_ok (p : Nat) (cs : List Clu) (M : List AO) (hcs : cs.length ≤ 2000000) (hc0 : ∀ c ∈ cs, 0 ≤ c.2.1) (hp : 1 ≤ p ∧ p ≤ 4) :
    AC E 93 [iv p, .fz 3 (cs.map cv)] M (fun r M' => r = .fz 1 ((hidL p cs).map fzi) ∧ M' = M) := by
  refine AC.body (fn := Tryz.f93) Tryz.func93 rfl rfl (by simp [Tryz.f93]) fun hcl => ?_
  simp only [Tryz.f93]
  try (simp (decide := true) only [ax, tabs, s0, Int.reduceToNat])
  repeat (first
    | refine AW.seq ?_
    | refine AW.blockS ?_
    | ((first | refine AW.skip ?_ | refine AW.exit ?_ | refine AW.opsN rfl ?_ | refine AW.ret ?_); try (simp (decide := true) only [ax, tabs, s0, Int.reduceToNat]))
    | (refine AW.condT ?_ ?_; (focus (simp (decide := true) only [ax, tabs, s0, Int.reduceToNat]; done)))
    | (refine AW.condF ?_ ?_; (focus (simp (decide := true) only [ax, tabs, s0, Int.reduceToNat]; done))))
  have hb : (M ++ [AO.mem [AV.fz 3 (cs.map cv)], AO.mem [], AO.mem [AV.sl 1 (M.length + 1) 0 0 0]])[M.length + 2]? = some (.mem [.sl 1 (M.length + 1) 0 0 0]) := by simp
  have hpow : 6 ^ p ≤ 1296 := by
    have : 6 ^ p ≤ 6 ^ 4 := Nat.pow_le_pow_right (by omega) hp.2
    simpa using this
  have hso : Stay (M.length + 2) (M ++ [AO.mem [AV.fz 3 (cs.map cv)], AO.mem [], AO.mem [AV.sl 1 (M.length + 1) 0 0 0]]) M.length (.mem [.fz 3 (cs.map cv)]) := by
    refine ⟨by simp, fun h => ?_⟩
    rcases h with h | ⟨k, off, len, g, h⟩
    · omega
    · rw [hb] at h; injection h with h; injection h with h; injection h with h; injection h with h1 h2; omega
  have hn : (nfL (hidStep cs) 6 p [] []).1 = hidL p cs := by
    rw [hidStep_eq, nfL_all, hid_fold]; simp [hidL]
  refine (notFalling_ok 6 p (by omega) (by omega) hp.1 (hidden_cb cs hcs hc0 M.length (M.length + 2) p hp) 0 [] _ ⟨.inr ⟨M.length + 1, by omega, by simp, by simp⟩, by have : (6 : Int).toNat ^ p = 6 ^ p := rfl; simp; omega, hso⟩).mono ?_
  rw [hn]
  rintro _ M' ⟨rfl, ⟨hO, _, hS⟩, hC⟩
  have hft : ∀ q, Foot (M.length + 2) (M ++ [AO.mem [AV.fz 3 (cs.map cv)], AO.mem [], AO.mem [AV.sl 1 (M.length + 1) 0 0 0]]) q → M.length ≤ q := by
    intro q hf
    rcases hf with h | ⟨k, off, len, g, h⟩
    · omega
    · rw [hb] at h; injection h with h; injection h with h; injection h with h; injection h with h1 h2; omega
  have hlen := hC.len
  simp at hlen
  obtain ⟨J, rfl⟩ := keep_append (M := M) (M' := M') (by omega) (fun q hq => by
    rw [hC.keep q (by simp; omega) (fun h => by have := hft q h; omega), List.getElem?_append_left hq])
  rcases hO with ⟨h1, h2⟩ | ⟨ot, h1, h2, h3⟩
  · try (simp (decide := true) only [ax, tabs, s0, Int.reduceToNat, h2])
    repeat (first
      | refine AW.seq ?_
      | refine AW.blockS ?_
      | ((first | refine AW.skip ?_ | refine AW.exit ?_ | refine AW.opsN rfl ?_ | refine AW.ret ?_); try (simp (decide := true) only [ax, tabs, s0, Int.reduceToNat, h2]))
      | (refine AW.condT ?_ ?_; (focus (simp (decide := true) only [ax, tabs, s0, Int.reduceToNat, h2]; done)))
      | (refine AW.condF ?_ ?_; (focus (simp (decide := true) only [ax, tabs, s0, Int.reduceToNat, h2]; done))))
    refine left (.inr rfl) hcl (Nat.le_refl _) (by simp (decide := true) only [ax, tabs, s0, Int.reduceToNat]; rfl) ?_ ⟨rfl, rfl⟩
    try (simp (decide := true) only [ax, tabs, s0, Int.reduceToNat, h1])
    exact .nil 1
  · have hot : M.length ≤ ot := by
      rcases hC.foot ot (.inr ⟨1, 0, _, _, h2⟩) with h | h
      · exact hft _ h
      · simp at h; omega
    try (simp (decide := true) only [ax, tabs, s0, Int.reduceToNat, h2])
    repeat (first
      | refine AW.seq ?_
      | refine AW.blockS ?_
      | ((first | refine AW.skip ?_ | refine AW.exit ?_ | refine AW.opsN rfl ?_ | refine AW.ret ?_); try (simp (decide := true) only [ax, tabs, s0, Int.reduceToNat, h2]))
      | (refine AW.condT ?_ ?_; (focus (simp (decide := true) only [ax, tabs, s0, Int.reduceToNat, h2]; done)))
      | (refine AW.condF ?_ ?_; (focus (simp (decide := true) only [ax, tabs, s0, Int.reduceToNat, h2]; done))))
    refine left (.inr rfl) hcl (Nat.le_refl _) (by simp (decide := true) only [ax, tabs, s0, Int.reduceToNat]; rfl) ?_ ⟨rfl, rfl⟩
    try (simp (decide := true) only [ax, tabs, s0, Int.reduceToNat])
    exact tell_row' h3 hot rfl
end Go.Ax
