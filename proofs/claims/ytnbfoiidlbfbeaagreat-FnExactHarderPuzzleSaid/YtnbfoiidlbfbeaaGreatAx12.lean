/- The rule for regions that draw their order, proved. -/
import Derived.Test.YtnbfoiidlbfbeaaGreatAx11
set_option linter.unusedVariables false
set_option linter.unusedSimpArgs false
namespace Go.Ax
open Go.RowKit (Below)

theorem ev_agree {E : Env} {T T' : Tm} {ops : Array Oper} {o : Oper} (h : ∀ t ∈ o.looksAt ops, T t = T' t) : ∀ x ∈ o.op.operands, ev E T x = ev E T' x := by
  intro x hx
  cases x with
  | tmp t =>
    exact h t (by
      unfold Oper.looksAt
      refine List.mem_append_left _ (List.mem_filterMap.2 ⟨.tmp t, by simpa using hx, rfl⟩))
  | const v => rfl
  | global g => rfl
  | func f => rfl
theorem opD_congr {E : Env} {T T' : Tm} {M M1 : List AO} {s : AV} {eff : Bool} {op : Op} (h : ∀ x ∈ op.operands, ev E T x = ev E T' x) (ha : opD E T M s M1 eff op) : opD E T' M s M1 eff op := by
  cases op with
  | buildSlice t len parts =>
    simp only [opD] at ha ⊢
    split
    · rename_i he; rw [if_pos he] at ha; exact opA_congr h ha
    · rename_i he; rw [if_neg he] at ha
      exact ⟨litA_congr (fun p hp => h p.2 (by simp only [Op.operands, List.mem_toArray, List.mem_map]; exact ⟨p, hp, rfl⟩)) ha.1, ha.2⟩
  | _ => exact opA_congr (M := M) (N := fun r M' => r = s ∧ M' = M1) h ha
theorem guardA_congr {T T' : Tm} {ops : Array Oper} {o : Oper} (h : ∀ t ∈ o.looksAt ops, T t = T' t) : guardA (ops.toList.map (·.dst)) T o.guard = guardA (ops.toList.map (·.dst)) T' o.guard := by
  cases hg : o.guard with
  | none => rfl
  | some p =>
    obtain ⟨j, want⟩ := p
    simp only [guardA]
    cases hd : (ops.toList.map (·.dst))[j]? with
    | none => rfl
    | some d0 =>
      cases d0 with
      | none => rfl
      | some d =>
        have : T d = T' d := h d (by
          unfold Oper.looksAt
          rw [hg]
          refine List.mem_append_right _ ?_
          rw [List.getElem?_map] at hd
          obtain ⟨o', ho', he⟩ := Option.map_eq_some_iff.1 hd
          have ho2 : ops[j]? = some o' := by simpa using ho'
          show d ∈ ((ops[j]?).bind (·.dst)).toList
          rw [ho2]
          simp [he])
        simp only [this]
theorem opD_ok {E : Env} {sz : Nat} {T : Tm} {M M1 : List AO} {s : AV} {eff : Bool} {o : Oper} (h : opD E T M s M1 eff o.op) : OpOk E sz o T M fun r M' => r = s ∧ M' = M1 := by
  obtain ⟨dst, op, ty, pos, after, gd⟩ := o
  cases op with
  | buildSlice t len parts =>
    simp only [opD] at h
    split at h
    · exact opA_ok _ h
    · exact lit_ok t len parts s h.1 ⟨rfl, h.2⟩
  | _ => exact opA_ok (M := M) (N := fun r M' => r = s ∧ M' = M1) _ h
theorem det_op {E : Env} {n sz : Nat} {ops : Array Oper} {o : Oper} {i : Nat} {T T' : Tm} {M M1 : List AO} {s : AV} {eff : Bool} (hi : ops[i]? = some o) (hd : detA E (ops.toList.map (·.dst)) T M s M1 eff o) (hT : ∀ t ∈ o.looksAt ops, T t = T' t) (hf : fits sz o.dst)
    {c : Ctx} {a : Act} {w : World} (st : St E c sz T' M a w) {Q : Exit → Act → World → Prop} {K : Act → World → Prop}
    (k : ∀ c2 a2 w2, St E c2 sz (putA T' o.dst s) M1 a2 w2 → FrN n c M w.heap c2 M1 w2.heap → WF w w2 → K a2 w2) : wpOp E.P ops Q i K a w := by
  have run : opD E T M s M1 eff o.op → o.wp E.P a w K Q := by
    intro h
    refine opD_ok (opD_congr (ev_agree hT) h) c a w K Q st ?_
    rintro r v M' c1 w1 ⟨rfl, rfl⟩ hfr hw hs hR
    exact k c1 _ w1 ((St.mk st.defers hs st.size (st.tmps.mono hfr)).put o.dst hf hR) (hfr.toN n) hw
  have skip : .any = s → M = M1 → K (a.put o.dst undef) w := by
    rintro rfl rfl
    exact k c _ w (st.put o.dst hf (.any _)) (.refl ..) (.refl _)
  have hg := guardA_congr hT
  unfold wpOp
  simp only [hi]
  cases hgd : o.guard with
  | none =>
    have hw := guardA_wanted st (o := o) (ops := ops) (b := true) (by rw [hgd]; rfl)
    rw [hw, if_pos rfl]
    unfold detA at hd
    rw [hgd] at hd
    exact .inl (run hd)
  | some g =>
    unfold detA at hd
    rw [hgd] at hd
    simp only at hd
    rw [hgd] at hg
    cases hb : guardA (ops.toList.map (·.dst)) T (some g) with
    | none => rw [hb] at hd; exact hd.elim
    | some b =>
      have hw := guardA_wanted st (o := o) (ops := ops) (b := b) (by rw [hgd, ← hg, hb])
      rw [hb] at hd
      rw [hw]
      cases b with
      | true => rw [if_pos rfl]; exact .inl (run hd)
      | false =>
        rw [if_neg (by decide)]
        exact skip hd.1 hd.2

section
variable {sz : Nat} {D : Tm → List AO → AV → List AO → Bool → Oper → Prop} {F : List Oper → Tm → List AO → Prop} {cl masks : List Nat} {l : List Oper} {T0 : Tm} {M0 : List AO} {sv : Nat → AV} {Tt : Nat → Tm} {Mt : Nat → List AO}

theorem uniq (ok : DrawOk l cl masks) {i j : Nat} {oi oj : Oper} {d : Tmp} (hi : i < cl.length) (hj : j < cl.length) (hoi : l[i]? = some oi) (hoj : l[j]? = some oj) (hdi : oi.dst = some d) (hdj : oj.dst = some d) : i = j := by
  rcases Nat.lt_trichotomy i j with h | h | h
  · exact absurd hdj ((ok.pair i j oi oj h hj hoi hoj).1 d hdi)
  · exact h
  · exact absurd hdi ((ok.pair j i oj oi h hi hoj hoi).1 d hdj)
theorem Plan.tt {H : List (List AO)} {Pd : List (List AO → Prop)} (p : Plan sz D F cl l T0 M0 H Pd sv Tt Mt) (ok : DrawOk l cl masks) : ∀ i, i ≤ cl.length → ∀ t, (∀ j o, j < i → l[j]? = some o → o.dst = some t → Tt i t = sv j) ∧ ((∀ j o, j < i → l[j]? = some o → o.dst ≠ some t) → Tt i t = T0 t) := by
  intro i
  induction i with
  | zero => intro _ t; exact ⟨fun j o h => by omega, fun _ => by rw [p.t0]⟩
  | succ i ih =>
    intro hi t
    obtain ⟨o, ho⟩ : ∃ o, l[i]? = some o := ⟨_, List.getElem?_eq_getElem (by have := p.len; omega)⟩
    obtain ⟨c, hc⟩ : ∃ c, cl[i]? = some c := ⟨_, List.getElem?_eq_getElem (by omega)⟩
    have hst := (p.step i o c hc ho).2.1
    obtain ⟨ih1, ih2⟩ := ih (by omega) t
    rw [hst]
    constructor
    · intro j oj hj hoj hd
      by_cases e : j = i
      · subst e
        rw [ho] at hoj; obtain rfl := Option.some.inj hoj
        rw [hd]; simp [putA, updA]
      · have hne : o.dst ≠ some t := fun h => e (uniq ok (by omega) (by omega) hoj ho hd h)
        have : putA (Tt i) o.dst (sv i) t = Tt i t := by
          cases hod : o.dst with
          | none => rfl
          | some d => simp only [putA, updA]; rw [if_neg (fun h => hne (by rw [hod, h]))]
        rw [this]
        exact ih1 j oj (by omega) hoj hd
    · intro hno
      have hne := hno i o (by omega) ho
      have : putA (Tt i) o.dst (sv i) t = Tt i t := by
        cases hod : o.dst with
        | none => rfl
        | some d => simp only [putA, updA]; rw [if_neg (fun h => hne (by rw [hod, h]))]
      rw [this]
      exact ih2 fun j oj hj hoj => hno j oj (by omega) hoj
/-- Between effects the memory stays. -/
theorem Plan.mt {H : List (List AO)} {Pd : List (List AO → Prop)} (p : Plan sz D F cl l T0 M0 H Pd sv Tt Mt) {a : Nat} : ∀ {b : Nat}, a ≤ b → b ≤ cl.length → (∀ e, a ≤ e → e < b → cl[e]? ≠ some 1) → Mt b = Mt a
  | 0, h, _, _ => by rw [Nat.le_zero.1 h]
  | b + 1, h, hb, hno => by
    by_cases e : a = b + 1
    · rw [e]
    · obtain ⟨o, ho⟩ : ∃ o, l[b]? = some o := ⟨_, List.getElem?_eq_getElem (by have := p.len; omega)⟩
      obtain ⟨c, hc⟩ : ∃ c, cl[b]? = some c := ⟨_, List.getElem?_eq_getElem (by omega)⟩
      have hne : c ≠ 1 := fun h1 => hno b (by omega) (by omega) (by rw [hc, h1])
      rw [((p.step b o c hc ho).2.2.1 hne).1]
      exact p.mt (by omega) (by omega) fun e h1 h2 => hno e h1 (by omega)

/-- What is true where some of the head has run. -/
structure Mid (l : List Oper) (cl : List Nat) (T0 : Tm) (sv : Nat → AV) (Mt : Nat → List AO) (listed : Array Bool) (T : Tm) (M : List AO) : Prop where
  size : listed.size = l.length
  closed : ∀ j o, l[j]? = some o → listed.getD j false = true → ∀ e ∈ o.after, Region.binds .any e = true → listed.getD e.on false = true
  rest : ∀ j, cl.length ≤ j → j < l.length → listed.getD j true = false
  tmp1 : ∀ t j o, j < cl.length → l[j]? = some o → o.dst = some t → listed.getD j false = true → T t = sv j
  tmp2 : ∀ t, (∀ j o, j < cl.length → l[j]? = some o → o.dst = some t → listed.getD j false = false) → T t = T0 t
  mem : ∃ k, k ≤ cl.length ∧ M = Mt k ∧ ∀ e, e < cl.length → cl[e]? = some 1 → (listed.getD e false = true ↔ e < k)
theorem mask_listed (ok : DrawOk l cl masks) {listed : Array Bool} (hc : ∀ j o, l[j]? = some o → listed.getD j false = true → ∀ e ∈ o.after, Region.binds .any e = true → listed.getD e.on false = true) : ∀ (j : Nat) (o : Oper), l[j]? = some o → (∀ e ∈ o.after, Region.binds .any e = true → listed.getD e.on false = true) →
    ∀ i, (masks.getD j 0).testBit i = true → listed.getD i false = true := by
  intro j
  induction j using Nat.strongRecOn with
  | _ j ih =>
    intro o ho ha i hi
    obtain ⟨e, he, hb, h⟩ := ok.mask j o i ho hi
    have hl := ha e he hb
    have hlt := ok.back j o ho e he hb
    rcases h with rfl | h
    · exact hl
    · obtain ⟨o', ho'⟩ : ∃ o', l[e.on]? = some o' := ⟨_, List.getElem?_eq_getElem (by have := (List.getElem?_eq_some_iff.1 ho).1; omega)⟩
      exact ih e.on hlt o' ho' (hc e.on o' ho' hl) i h

theorem getD_tf {listed : Array Bool} {j : Nat} (hj : j < listed.size) : listed.getD j true = listed.getD j false := by
  simp [Array.getD_eq_getD_getElem?, Array.getElem?_eq_getElem hj]
/-- One more operation of the head runs. -/
theorem Mid.step {H : List (List AO)} {Pd : List (List AO → Prop)} (p : Plan sz D F cl l T0 M0 H Pd sv Tt Mt) (ok : DrawOk l cl masks) {listed : Array Bool} {T : Tm} {M : List AO} (m : Mid l cl T0 sv Mt listed T M) {i : Nat} {o : Oper} {c : Nat} (hi : i < cl.length) (ho : l[i]? = some o) (hc : cl[i]? = some c)
    (hun : listed.getD i false = false) (hready : ∀ e ∈ o.after, Region.binds .any e = true → listed.getD e.on false = true) :
    (∀ t ∈ o.looksAt l.toArray, Tt i t = T t) ∧ ∃ M1, D (Tt i) M (sv i) M1 (c == 1) o ∧ Mid l cl T0 sv Mt (listed.setIfInBounds i true) (putA T o.dst (sv i)) M1 := by
  have hbits := mask_listed ok m.closed i o ho hready
  have hlen := p.len
  -- what must have run, and what cannot have
  have before : ∀ j oj, j < i → l[j]? = some oj → (masks.getD i 0).testBit j = true → listed.getD j false = true := fun j oj _ _ hb => hbits j hb
  have behind : ∀ j oj, l[j]? = some oj → (masks.getD j 0).testBit i = true → listed.getD j false = false := by
    intro j oj hoj hb
    cases hl : listed.getD j false with
    | false => rfl
    | true =>
      have := mask_listed ok m.closed j oj hoj (m.closed j oj hoj hl) i hb
      rw [hun] at this; cases this
  obtain ⟨s1, s2, s3, s4, s5, s6⟩ := p.step i o c hc ho
  have clAt : ∀ j c', cl[j]? = some c' → cl.getD j 0 = c' := fun j c' h => by rw [List.getD_eq_getElem?_getD, h]; rfl
  refine ⟨fun t ht => ?_, ?_⟩
  · obtain ⟨q1, q2⟩ := p.tt ok i (by omega) t
    by_cases hex : ∃ j oj, j < cl.length ∧ l[j]? = some oj ∧ oj.dst = some t
    · obtain ⟨j, oj, hj, hoj, hd⟩ := hex
      rcases Nat.lt_trichotomy j i with hlt | heq | hgt
      · rcases (ok.pair j i oj o hlt hi hoj ho).2 with hb | ⟨hap, _⟩
        · rw [q1 j oj hlt hoj hd, m.tmp1 t j oj hj hoj hd (before j oj hlt hoj hb)]
        · exact absurd ht ((Oper.apart_spec hap).1 t hd)
      · subst heq
        rw [ho] at hoj; obtain rfl := Option.some.inj hoj
        rw [q2 fun j' oj' hj' hoj' hd' => absurd (uniq ok (by omega) hi hoj' ho hd' hd) (by omega)]
        rw [m.tmp2 t fun j' oj' hj' hoj' hd' => by rw [uniq ok hj' hi hoj' ho hd' hd]; exact hun]
      · rcases (ok.pair i j o oj hgt hj ho hoj).2 with hb | ⟨hap, _⟩
        · rw [q2 fun j' oj' hj' hoj' hd' => absurd (uniq ok (by omega) hj hoj' hoj hd' hd) (by omega)]
          rw [m.tmp2 t fun j' oj' hj' hoj' hd' => by rw [uniq ok hj' hj hoj' hoj hd' hd]; exact behind j oj hoj hb]
        · exact absurd ht ((Oper.apart_spec hap).2.2 t hd)
    · rw [q2 fun j oj hj hoj hd => hex ⟨j, oj, by omega, hoj, hd⟩, m.tmp2 t fun j oj hj hoj hd => absurd ⟨j, oj, hj, hoj, hd⟩ hex]
  · obtain ⟨k, hk, hM, hke⟩ := m.mem
    -- effects and what is not free of them are in order
    have ord : (c = 0 ∨ c = 1) → ∀ e, e < cl.length → cl[e]? = some 1 → (e < i → listed.getD e false = true) ∧ (i < e → listed.getD e false = false) := by
      intro hc01 e he hce
      obtain ⟨oe, hoe⟩ : ∃ oe, l[e]? = some oe := ⟨_, List.getElem?_eq_getElem (by omega)⟩
      refine ⟨fun h => ?_, fun h => ?_⟩
      · rcases (ok.pair e i oe o h hi hoe ho).2 with hb | ⟨_, hk2⟩
        · exact before e oe h hoe hb
        · rw [clAt e 1 hce, clAt i c hc] at hk2
          rcases hc01 with rfl | rfl <;> simp [okc] at hk2
      · rcases (ok.pair i e o oe h he ho hoe).2 with hb | ⟨_, hk2⟩
        · exact behind e oe hoe hb
        · rw [clAt e 1 hce, clAt i c hc] at hk2
          rcases hc01 with rfl | rfl <;> simp [okc] at hk2
    have stage : (c = 0 ∨ c = 1) → Mt k = Mt i := by
      intro hc01
      have o1 := ord hc01
      rcases Nat.le_total i k with h | h
      · refine p.mt h hk fun e h1 h2 hce => ?_
        have hl := (hke e (by omega) hce).2 h2
        rcases Nat.lt_or_ge i e with h3 | h3
        · rw [(o1 e (by omega) hce).2 h3] at hl; cases hl
        · have : e = i := by omega
          subst this; rw [hun] at hl; cases hl
      · refine (p.mt h (by omega) fun e h1 h2 hce => ?_).symm
        have hl := (o1 e (by omega) hce).1 h2
        have := (hke e (by omega) hce).1 hl
        omega
    have hlt : i < listed.size := by rw [m.size]; omega
    have mid : ∀ M1, (∃ k, k ≤ cl.length ∧ M1 = Mt k ∧ ∀ e, e < cl.length → cl[e]? = some 1 → ((listed.setIfInBounds i true).getD e false = true ↔ e < k)) → Mid l cl T0 sv Mt (listed.setIfInBounds i true) (putA T o.dst (sv i)) M1 := by
      intro M1 hm1
      have setNe : ∀ {j : Nat} (d : Bool), j ≠ i → (listed.setIfInBounds i true).getD j d = listed.getD j d := fun d h => getD_set_ne d (Ne.symm h)
      have setEq : (listed.setIfInBounds i true).getD i false = true := by simp [Array.getD_eq_getD_getElem?, hlt]
      refine ⟨by simp [m.size], fun j oj hoj hl e he hb => ?_, fun j hj hjl => by rw [setNe true (by omega)]; exact m.rest j hj hjl, fun t j oj hj hoj hd hl => ?_, fun t hno => ?_, hm1⟩
      · by_cases hji : j = i
        · subst hji
          rw [ho] at hoj; obtain rfl := Option.some.inj hoj
          exact getD_set_true (hready e he hb)
        · rw [setNe false hji] at hl
          exact getD_set_true (m.closed j oj hoj hl e he hb)
      · by_cases hji : j = i
        · subst hji
          rw [ho] at hoj; obtain rfl := Option.some.inj hoj
          rw [hd]; simp [putA, updA]
        · rw [setNe false hji] at hl
          have hne : o.dst ≠ some t := fun h => hji (uniq ok hj hi hoj ho hd h)
          have : putA T o.dst (sv i) t = T t := by
            cases hod : o.dst with
            | none => rfl
            | some d => simp only [putA, updA]; rw [if_neg (fun h => hne (by rw [hod, h]))]
          rw [this]; exact m.tmp1 t j oj hj hoj hd hl
      · have hne : o.dst ≠ some t := fun h => by
          have := hno i o hi ho h
          rw [setEq] at this; cases this
        have : putA T o.dst (sv i) t = T t := by
          cases hod : o.dst with
          | none => rfl
          | some d => simp only [putA, updA]; rw [if_neg (fun h => hne (by rw [hod, h]))]
        rw [this]
        refine m.tmp2 t fun j oj hj hoj hd => ?_
        by_cases hji : j = i
        · subst hji
          rw [ho] at hoj; obtain rfl := Option.some.inj hoj
          exact absurd hd hne
        · have := hno j oj hj hoj hd
          rw [setNe false hji] at this; exact this
    have same : c ≠ 1 → Mid l cl T0 sv Mt (listed.setIfInBounds i true) (putA T o.dst (sv i)) M := by
      intro hne
      refine mid M ⟨k, hk, hM, fun e he hce => ?_⟩
      have : e ≠ i := fun h => by subst h; rw [hc] at hce; exact hne (Option.some.inj hce)
      rw [getD_set_ne false (Ne.symm this)]
      exact hke e he hce
    by_cases h1 : c = 1
    · subst h1
      refine ⟨Mt (i + 1), ?_, mid _ ⟨i + 1, by omega, rfl, fun e he hce => ?_⟩⟩
      · rw [hM, stage (.inr rfl)]; exact s4 rfl
      · by_cases hei : e = i
        · subst hei
          simp [Array.getD_eq_getD_getElem?, hlt]
        · rw [getD_set_ne false (Ne.symm hei)]
          obtain ⟨o1, o2⟩ := ord (.inr rfl) e he hce
          constructor
          · intro hl
            rcases Nat.lt_or_ge i e with h | h
            · rw [o2 h] at hl; cases hl
            · omega
          · intro h; exact o1 (by omega)
    · refine ⟨M, ?_, same h1⟩
      have hb : (c == 1) = false := by simpa using h1
      rw [hb]
      by_cases h0 : c = 0
      · rw [hM, stage (.inl h0)]; exact (s3 h1).2
      · by_cases h2 : c = 2
        · exact s5 h2 M
        · rw [hM]; exact (s6 (by omega)).2 k hk
end

theorem AW.draw {E : Env} {n sz id : Nat} {l : List Oper} {T : Tm} {M : List AO} {Q : Exit → Tm → List AO → Prop} (hm : E.P.follows .mixedOrders = true) (cl masks : List Nat) (hchk : drawOk l cl masks = true) (h : drawA E sz (l.map (·.dst)) (Q .normal) cl l T M [] []) :
    AW E n sz (.region id l.toArray true) T M Q := by
  have ok := drawOk_spec hchk
  obtain ⟨sv, Tt, Mt, p⟩ := drawA_plan cl l T M [] [] h (fun q hq => by cases hq)
  have hlen := p.len
  intro c a w s
  refine wp_region_any hm ?_
  have key : ∀ (u : Nat) (U : List Nat) (listed : Array Bool) (c' : Ctx) (T' : Tm) (M' : List AO) (a' : Act) (w' : World), U.length = u → U.Nodup → (∀ i, i < cl.length → listed.getD i false = false → i ∈ U) → (∀ i ∈ U, i < cl.length ∧ listed.getD i false = false) →
      Mid l cl T sv Mt listed T' M' → FrN n c M w.heap c' M' w'.heap → WF w w' → St E c' sz T' M' a' w' → wpAny E.P .any l.toArray (Post E n sz Q c M w) (u + (l.length - cl.length)) listed a' w' := by
    intro u
    induction u with
    | zero =>
      intro U listed c' T' M' a' w' hU hnd hall hsome m hf hw st
      have hU0 : U = [] := List.eq_nil_of_length_eq_zero hU
      subst hU0
      have hl : ∀ i, i < cl.length → listed.getD i false = true := by
        intro i hi
        cases hx : listed.getD i false with
        | true => rfl
        | false => exact absurd (hall i hi hx) (by simp)
      have hlisted : listed = Array.replicate cl.length true ++ Array.replicate (l.length - cl.length) false := by
        apply Array.ext
        · rw [m.size]; simp; omega
        · intro i h1 h2
          rw [m.size] at h1
          rcases Nat.lt_or_ge i cl.length with h3 | h3
          · have := hl i h3
            rw [Array.getElem_append_left (by simpa using h3)]
            simp only [Array.getElem_replicate]
            have h4 : i < listed.size := by rw [m.size]; exact h1
            simpa [Array.getD_eq_getD_getElem?, Array.getElem?_eq_getElem h4] using this
          · have := m.rest i h3 h1
            rw [Array.getElem_append_right (by simpa using h3)]
            simp only [Array.getElem_replicate]
            have h4 : i < listed.size := by rw [m.size]; exact h1
            simpa [Array.getD_eq_getD_getElem?, Array.getElem?_eq_getElem h4] using this
      have hT : T' = Tt cl.length := by
        funext t
        obtain ⟨q1, q2⟩ := p.tt ok cl.length (Nat.le_refl _) t
        by_cases hex : ∃ j oj, j < cl.length ∧ l[j]? = some oj ∧ oj.dst = some t
        · obtain ⟨j, oj, hj, hoj, hd⟩ := hex
          rw [q1 j oj hj hoj hd, m.tmp1 t j oj hj hoj hd (hl j hj)]
        · rw [q2 fun j oj hj hoj hd => hex ⟨j, oj, hj, hoj, hd⟩, m.tmp2 t fun j oj hj hoj hd => absurd ⟨j, oj, hj, hoj, hd⟩ hex]
      have hM : M' = Mt cl.length := by
        obtain ⟨k, hk, hM, hke⟩ := m.mem
        rw [hM]
        refine (p.mt hk (Nat.le_refl _) fun e h1 h2 hce => ?_).symm
        have := (hke e h2 hce).1 (hl e h2)
        omega
      subst hT; subst hM
      have hal : AL E n sz l.toArray (l.drop cl.length) (Tt cl.length) (Mt cl.length) Q := alA_ok (by simpa using p.fin)
      have hwl := hal c' a' w' (Post E n sz Q c M w) st fun e a2 w2 hp => hp.from hf hw
      have hseq := ok.seq
      rw [← hlisted] at hseq
      have := wpAny_of_seq (md := .any) (ops := l.toArray) (l.drop cl.length) cl.length listed a' w' (fun j => by rw [List.getElem?_drop]; simp) (by simpa using hseq) hwl
      rw [Nat.zero_add]
      simpa using this
    | succ u ih =>
      intro U listed c' T' M' a' w' hU hnd hall hsome m hf hw st
      rw [show u + 1 + (l.length - cl.length) = u + (l.length - cl.length) + 1 from by omega]
      have hne : ∃ i0, i0 ∈ U := by
        cases U with
        | nil => cases hU
        | cons x xs => exact ⟨x, List.mem_cons_self ..⟩
      have getTF : ∀ j, j < l.length → listed.getD j true = listed.getD j false := fun j hj => getD_tf (by rw [m.size]; exact hj)
      have least : ∀ i, i ∈ U → ∃ j, j ∈ Region.ready .any l.toArray listed := by
        intro i
        induction i using Nat.strongRecOn with
        | _ i ihi =>
          intro hi
          obtain ⟨hlt, hun⟩ := hsome i hi
          obtain ⟨o, ho⟩ : ∃ o, l[i]? = some o := ⟨_, List.getElem?_eq_getElem (by omega)⟩
          by_cases hr : ∀ e ∈ o.after, Region.binds .any e = true → listed.getD e.on false = true
          · refine ⟨i, mem_ready.2 ⟨by rw [getTF i (by omega)]; exact hun, o, by simpa using ho, hr⟩⟩
          · have : ∃ e ∈ o.after, Region.binds .any e = true ∧ listed.getD e.on false = false := by
              apply Classical.byContradiction
              intro hno
              exact hr fun e he hb => by
                cases hx : listed.getD e.on false with
                | true => rfl
                | false => exact absurd ⟨e, he, hb, hx⟩ hno
            obtain ⟨e, he, hb, hx⟩ := this
            have hlt2 := ok.back i o ho e he hb
            exact ihi e.on hlt2 (hall e.on (by omega) hx)
      refine ⟨fun h0 => ?_, fun i hi => ?_⟩
      · obtain ⟨i0, hi0⟩ := hne
        obtain ⟨j, hj⟩ := least i0 hi0
        rw [h0] at hj; cases hj
      · obtain ⟨hun0, o, ho, hready⟩ := mem_ready.1 hi
        have ho : l[i]? = some o := by simpa using ho
        have hil : i < l.length := (List.getElem?_eq_some_iff.1 ho).1
        have hun : listed.getD i false = false := by rw [← getTF i hil]; exact hun0
        have hlt : i < cl.length := by
          rcases Nat.lt_or_ge i cl.length with h1 | h1
          · exact h1
          · obtain ⟨i0, hi0⟩ := hne
            obtain ⟨h2, h3⟩ := hsome i0 hi0
            have := mask_listed ok m.closed i o ho hready i0 (ok.tail i h1 hil i0 h2)
            rw [h3] at this; cases this
        obtain ⟨cc, hcc⟩ : ∃ cc, cl[i]? = some cc := ⟨_, List.getElem?_eq_getElem hlt⟩
        obtain ⟨hT, M1, hdet, hmid⟩ := m.step p ok hlt ho hcc hun hready
        have hfit := (p.step i o cc hcc ho).1
        have hlist : l.toArray.toList.map (·.dst) = l.map (·.dst) := by simp
        refine det_op (n := n) (ops := l.toArray) (i := i) (by simpa using ho) (by rw [hlist]; exact hdet) hT hfit st ?_
        intro c2 a2 w2 st2 hf2 hw2
        have hmem := hall i hlt hun
        refine ih (U.erase i) _ c2 _ M1 a2 w2 (by rw [List.length_erase_of_mem hmem, hU]; rfl) (hnd.erase i) (fun j hj hx => ?_) (fun j hj => ?_) hmid (hf.trans hf2) (hw.trans hw2) st2
        · by_cases hji : j = i
          · subst hji
            have : (listed.setIfInBounds j true).getD j false = true := by
              have h4 : j < listed.size := by rw [m.size]; exact hil
              simp [Array.getD_eq_getD_getElem?, h4]
            rw [this] at hx; cases hx
          · rw [getD_set_ne false (Ne.symm hji)] at hx
            exact (List.mem_erase_of_ne hji).2 (hall j hj hx)
        · have hji : j ≠ i := fun h => by subst h; exact (hnd.not_mem_erase) hj
          have hjU := List.mem_of_mem_erase hj
          obtain ⟨h1, h2⟩ := hsome j hjU
          exact ⟨h1, by rw [getD_set_ne false (Ne.symm hji)]; exact h2⟩
  have := key cl.length (List.range cl.length) (Array.replicate l.length false) c T M a { w with drawn := w.drawn + 1 } (by simp) List.nodup_range (fun i hi _ => List.mem_range.2 hi) (fun i hi => ⟨List.mem_range.1 hi, getD_replicate_false ..⟩)
    ⟨by simp, fun j o ho hl => (by rw [getD_replicate_false] at hl; cases hl), fun j hj hjl => (by simp [Array.getD_eq_getD_getElem?, hjl]), fun t j o hj ho hd hl => (by rw [getD_replicate_false] at hl; cases hl), fun t _ => rfl, ⟨0, Nat.zero_le _, p.m0.symm, fun e he hce => (by rw [getD_replicate_false]; simp)⟩⟩
    (.refl ..) ⟨rfl, rfl, rfl, Nat.le_refl _⟩ ⟨s.defers, s.sim, s.size, s.tmps⟩
  rw [show cl.length + (l.length - cl.length) = l.length from by omega] at this
  simpa using this

/-! ### In a row, with literals frozen -/
theorem AL.det {E : Env} {n sz : Nat} {ops : Array Oper} {Q : Exit → Tm → List AO → Prop} {o : Oper} {l : List Oper} {T : Tm} {M M1 : List AO} {s : AV} {eff : Bool} (hf : fits sz o.dst) (hd : detA E (ops.toList.map (·.dst)) T M s M1 eff o)
    (h : AL E n sz ops l (putA T o.dst s) M1 Q) : AL E n sz ops (o :: l) T M Q := by
  unfold detA at hd
  split at hd
  · rename_i hg
    exact .cons hg hf ((opD_ok hd).mono fun r M' hr => by obtain ⟨rfl, rfl⟩ := hr; exact h)
  · rename_i g hg
    cases hb : guardA (ops.toList.map (·.dst)) T (some g) with
    | none => rw [hb] at hd; exact hd.elim
    | some b =>
      rw [hb] at hd
      cases b with
      | true => exact .guarded true (by rw [hg]; exact hb) hf (fun _ => (opD_ok (gA_true hd)).mono fun r M' hr => by obtain ⟨rfl, rfl⟩ := hr; exact h) (fun e => by cases e)
      | false =>
        obtain ⟨rfl, rfl⟩ := gA_false hd
        exact .guarded false (by rw [hg]; exact hb) hf (fun e => by cases e) (fun _ => h)
theorem drawA_AL {E : Env} {n sz : Nat} {ops : Array Oper} {Q : Exit → Tm → List AO → Prop} : ∀ (cl : List Nat) (l : List Oper) (T : Tm) (M : List AO) (H : List (List AO)) (Pd : List (List AO → Prop)), drawA E sz (ops.toList.map (·.dst)) (Q .normal) cl l T M H Pd → AL E n sz ops l T M Q
  | [], l, T, M, H, Pd, h => by simp only [drawA] at h; exact alA_ok h
  | c :: _, [], _, _, _, _, h => by match c, h with | 0, h => exact h.elim | 1, h => exact h.elim | 2, h => exact h.elim | n + 3, h => exact h.elim
  | 0 :: cl, o :: l, T, M, H, Pd, ⟨hf, s, hd, h⟩ => .det hf hd (drawA_AL cl l _ _ _ _ h)
  | 1 :: cl, o :: l, T, M, H, Pd, ⟨hf, M1, s, hd, hP, h⟩ => .det hf hd (drawA_AL cl l _ _ _ _ h)
  | 2 :: cl, o :: l, T, M, H, Pd, ⟨hf, s, hd, h⟩ => .det hf (hd M) (drawA_AL cl l _ _ _ _ h)
  | (n + 3) :: cl, o :: l, T, M, H, Pd, ⟨hf, s, hd, hH, h⟩ => .det hf hd (drawA_AL cl l _ _ _ _ h)
theorem AW.lits {E : Env} {n sz id : Nat} {l : List Oper} {T : Tm} {M : List AO} {Q : Exit → Tm → List AO → Prop} (cl : List Nat) (h : drawA E sz (l.map (·.dst)) (Q .normal) cl l T M [] []) : AW E n sz (.region id l.toArray false) T M Q :=
  .region (drawA_AL cl l T M [] [] (by simpa using h))
end Go.Ax
