/- More kinds of operations: append, literals, cuts, what is nil, bytes. -/
import Derived.Test.YtnbfoiidlbfbeaaGreatAx4
import Derived.Laws.BytesArg
import Derived.Laws.MakeOwn
set_option linter.unusedVariables false
set_option linter.unusedSimpArgs false
namespace Go.Ax
open Go.RowKit (Below)
open Go.Proofs (Enters enters_of)

theorem TDok.run_elem {P : Program} {t e : TypeId} {k by' : Nat} {ez : List Value} (h : TDok P t (.sl e k by' ez)) : ∃ i z, P.info? e = some i ∧ i.size = k ∧ i.bytes = by' ∧ i.zero = some z ∧ z.cells.toList = ez := by
  obtain ⟨i, hi, he⟩ := Option.map_eq_some_iff.1 h.2.1
  simp only [Prod.mk.injEq] at he
  obtain ⟨z, hz, hz2⟩ := Option.map_eq_some_iff.1 he.2.2
  exact ⟨i, z, hi, he.1, he.2.1, hz, hz2⟩

/-- What a slice reads as: how many elements, and their cells. -/
def rdA (M : List AO) : AV → Option (Nat × List AV)
  | .nils => some (0, [])
  | .fz k xs => some (xs.length, flat xs)
  | .sl k o off len g => match M[o]? with
    | some (.mem cs) => if cs.length = g then some (len, (cs.drop off).take (len * k)) else none
    | _ => none
  | _ => none
theorem rdA_R {c : Ctx} {M : List AO} {h : Array Obj} (s : Sim c M h) {x : AV} {v : Value} (r : R c M h x v) {n : Nat} {ys : List AV} (hx : rdA M x = some (n, ys)) :
    ∃ A cap, v = .slice A n cap ∧ (A = none → n = 0 ∧ ys = []) ∧ ∀ a, A = some a → (n = 0 ∧ ys = []) ∨ (a.spot = none ∧ ∃ cur ty fr, h[a.block]? = some (.cells cur ty fr) ∧ ∀ (i : Nat) (y : AV), ys[i]? = some y → ∃ u, cur[a.off + i]? = some u ∧ R c M h y u) := by
  cases r with
  | nils =>
    injection hx with hx; injection hx with h1 h2; subst h1; subst h2
    exact ⟨none, 0, rfl, fun _ => ⟨rfl, rfl⟩, fun a e => by cases e⟩
  | fz0 k A cap =>
    injection hx with hx; injection hx with h1 h2; subst h1; subst h2
    exact ⟨A, cap, rfl, fun _ => ⟨rfl, rfl⟩, fun a e => .inl ⟨rfl, rfl⟩⟩
  | fz k xs B off cap f cur ty fr hp hb hl hk hf hr =>
    injection hx with hx; injection hx with h1 h2; subst h1; subst h2
    exact ⟨_, cap, rfl, fun e => (by cases e), fun a e => by
      injection e with e; subst e
      exact .inr ⟨rfl, cur, ty, fr, hb, fun i y hi => ⟨f i, hf i (List.getElem?_eq_some_iff.1 hi).1, hr i y hi⟩⟩⟩
  | sl k o off len g v hk h1 hv =>
    simp only [rdA] at hx
    split at hx
    · rename_i cs hcs
      split at hx
      · rename_i hg
        injection hx with hx; injection hx with h1 h2; subst h1; subst h2
        obtain ⟨hle, cap, rfl, _⟩ := hv ⟨cs, hcs, hg⟩
        obtain ⟨cur, ty, hb, hs, hl, hc⟩ := s.live o cs hcs
        refine ⟨_, cap, rfl, fun e => (by cases e), fun a e => ?_⟩
        injection e with e; subst e
        refine .inr ⟨rfl, cur, ty, (0, 0), hb, fun i y hi => ?_⟩
        rw [List.getElem?_take] at hi
        split at hi
        · rw [List.getElem?_drop] at hi; exact hc _ y hi
        · cases hi
      · cases hx
    · cases hx
  | _ => cases hx

/-- The values that stand in cells told as these. -/
theorem vals_of {c : Ctx} {M : List AO} {h : Array Obj} (w : World) (hw : w.heap = h) {a : Addr} (ha : a.spot = none) {cur : Array Value} {ty : TypeId} {fr : Nat × Nat} (hb : h[a.block]? = some (.cells cur ty fr)) {ys : List AV}
    (hy : ∀ (i : Nat) (y : AV), ys[i]? = some y → ∃ u, cur[a.off + i]? = some u ∧ R c M h y u) : ∃ vs : List Value, Rl c M h ys vs ∧ ∀ (j : Nat) (v : Value), vs[j]? = some v → w.cell? (a.add j) = some v := by
  subst hw
  refine ⟨(cur.toList.drop a.off).take ys.length, ⟨?_, fun i y hi => ?_⟩, fun j v hj => ?_⟩
  · rcases Nat.eq_zero_or_pos ys.length with h0 | h0
    · simp [h0]
    · obtain ⟨u, hu, _⟩ := hy (ys.length - 1) _ (List.getElem?_eq_getElem (by omega))
      have := lt_of_get hu
      simp; omega
  · obtain ⟨u, hu, hr⟩ := hy i y hi
    have := (List.getElem?_eq_some_iff.1 hi).1
    exact ⟨u, by rw [List.getElem?_take, if_pos this, List.getElem?_drop]; simpa using hu, hr⟩
  · rw [List.getElem?_take] at hj
    split at hj
    · rw [List.getElem?_drop] at hj
      obtain ⟨b, o, sp⟩ := a
      simp only at ha
      subst ha
      rw [add_plain, cell_of hb]; simpa using hj
    · cases hj
theorem Rl.ones {c : Ctx} {M : List AO} {h : Array Obj} {ys : List AV} {vs : List Value} (r : Rl c M h ys vs) (h1 : ys.all AV.one = true) : ∀ u ∈ vs, u.oneCell' = true := by
  intro u hu
  obtain ⟨i, hi, rfl⟩ := List.getElem_of_mem hu
  have hi' : i < ys.length := by rw [r.1]; exact hi
  obtain ⟨u2, hu2, hr2⟩ := r.2 i ys[i] (List.getElem?_eq_getElem hi')
  rw [List.getElem?_eq_getElem hi] at hu2
  injection hu2 with hu2
  rw [hu2]
  exact hr2.one (List.all_eq_true.1 h1 _ (List.getElem_mem hi'))

section
variable {E : Env} {sz : Nat} {T : Tm} {M : List AO} {N : AV → List AO → Prop} {dst : Option Tmp} {ty : TypeId} {pos : String} {after : Array Edge} {gd : Option (Nat × Bool)}

/-- append to a row of the call's own. -/
theorem ok_append (x y : Operand) (t e : TypeId) (k by' : Nat) (ez : List Value) (ht : E.tab t = some (.sl e k by' ez)) (o len g : Nat) (hx : ev E T x = .sl k o 0 len g) (cs : List AV) (ho : M[o]? = some (.mem cs)) (hg : cs.length = g) (hlen : len * k = g)
    (m : Nat) (ys : List AV) (hy : rdA M (ev E T y) = some (m, ys)) (hm : ys.length = m * k) (h1 : ys.all AV.one = true) (hb : (len + m) * by' ≤ 140737488355328) (h : N (.sl k o 0 (len + m) (g + m * k)) (M.set o (.mem (cs ++ ys)))) :
    OpOk E sz ⟨dst, .call ⟨.builtin .append, #[x, y], #[t, t]⟩, ty, pos, after, gd⟩ T M N :=
  .val fun c a w s => by
    have hT := E.ok t _ ht
    obtain ⟨i, z, hi, his, hib, hiz, hzc⟩ := hT.run_elem
    have hk0 : 0 < k := hT.2.2.2.1
    have hby0 : 0 < by' := hT.2.2.2.2.1
    have hR := ev_R s x
    rw [hx] at hR
    generalize hv : a.eval x = v at hR
    obtain ⟨A, cap2, hv2, hA0, hA1⟩ := rdA_R s.sim.sim (ev_R s y) hy
    have hsmall : len + m ≤ 140737488355328 := Nat.le_trans (Nat.le_mul_of_pos_right _ hby0) hb
    cases hR with
    | sl _ _ _ _ _ _ hkn h1' hval =>
      obtain ⟨hle, cap, rfl, hlc, hcm, hcc, hcg⟩ := hval ⟨cs, ho, hg⟩
      obtain ⟨cur, ty', hbk, hs, hl, hc⟩ := s.sim.sim.live o cs ho
      rw [← hs] at hcc
      simp only [Nat.zero_add] at hcc hle
      -- what is appended
      have hnew : ∃ vs : List Value, Rl c M w.heap ys vs ∧ (Builtin.firstCells k m (.slice A m cap2)).run E.P w = .ok vs.toArray w := by
        cases A with
        | none =>
          obtain ⟨h0, h2⟩ := hA0 rfl
          subst h0; subst h2
          exact ⟨[], .nil .., by simp [Builtin.firstCells]⟩
        | some ad =>
          rcases hA1 ad rfl with ⟨h0, h2⟩ | ⟨hsp, cur2, ty2, fr2, hb2, hys⟩
          · subst h0; subst h2
            exact ⟨[], .nil .., by simp [Builtin.firstCells, loadCells, loadCellsFrom]⟩
          · obtain ⟨vs, hvs, hcell⟩ := vals_of w rfl hsp hb2 hys
            exact ⟨vs, hvs, run_firstCells_some w k m ad m cap2 vs (by rw [← hvs.1, hm]) hcell⟩
      obtain ⟨vs, hvs, hfirst⟩ := hnew
      have hone := hvs.ones h1
      have hvl : vs.length = m * k := by rw [← hvs.1, hm]
      by_cases hroom : len + m ≤ cap
      · -- in place
        have hfit : len * k + vs.length ≤ cur.size := by
          rw [hvl, ← Nat.add_mul]
          exact Nat.le_trans (Nat.mul_le_mul_right _ hroom) hcc
        obtain ⟨w', hrun, hw, hsz, hb', ho'⟩ := run_storeCells (P := E.P) (c.σ o) ty' vs (len * k) 0 cur w hbk hone (by simpa using hfit)
        rw [Nat.add_zero] at hb'
        have hup := s.sim.sim.update o cs (cs ++ ys) (putCells cur (len * k) vs) ty' ho (by simp) (by rw [putCells_size hfit, hs]) (by rw [putCells_size hfit, List.length_append, hm, hg, ← hlen, ← hvl]; exact hfit)
          (fun j b hj => by
            rw [putCells_get hfit]
            rcases Nat.lt_or_ge j cs.length with hlt | hge
            · rw [List.getElem?_append_left hlt] at hj
              rw [if_pos (by omega)]; exact hc j b hj
            · rw [List.getElem?_append_right hge] at hj
              rw [if_neg (by omega)]
              have hj2 := (List.getElem?_eq_some_iff.1 hj).1
              rw [if_pos (by rw [hvl, ← hm]; omega), show j - len * k = j - cs.length from by omega]
              exact hvs.2 _ b hj) w'.heap hsz hb' ho'
        refine ⟨.slice (some ⟨c.σ o, 0, none⟩) (len + m) cap, w', _, _, c, ?_, h, hup.1, hw, s.sim.mk' hup.1 hup.2, ?_⟩
        · have hst : (storeCells ((⟨c.σ o, 0, none⟩ : Addr).add (len * i.size)) vs 0).run E.P w = .ok () w' := by
            rw [add_plain, his, Nat.zero_add]; exact hrun
          simp [execOp, resolve, invoke, builtin, Builtin.append_, underlying, hT.1.1, hv, hv2, sizeOf, typeInfo, hi, Builtin.lenOf, hroom, his, hfirst]
          rw [his] at hst
          simp [hst]
        · refine .sl _ _ _ _ _ _ ?_ rfl fun _ => ⟨?_, cap, rfl, hroom, hcm, by rw [← hs]; simpa using hcc, by have := Nat.mul_le_mul_right k hroom; rw [Nat.add_mul, hlen] at this; omega⟩
          · exact ⟨.mem (cs ++ ys), by rw [List.getElem?_set_self (List.getElem?_eq_some_iff.1 ho).1], (fun h => by cases h), fun cs2 e2 => by injection e2 with e2; subst e2; simp [hm, hg]⟩
          · rw [Nat.add_mul, hlen]; omega
      · -- grown
        have hm0 : 0 < m := by omega
        cases A with
        | none => obtain ⟨h0, _⟩ := hA0 rfl; omega
        | some ad =>
          rcases hA1 ad rfl with ⟨h0, h2⟩ | ⟨hsp, cur2, ty2, fr2, hb2, hys⟩
          · omega
          obtain ⟨vs2, hvs2, hcell2⟩ := vals_of w rfl hsp hb2 hys
          obtain ⟨olds, hos, hocell⟩ := vals_of (c := c) (M := M) w rfl (a := ⟨c.σ o, 0, none⟩) rfl hbk (ys := cs) (fun j b hj => by simpa using hc j b hj)
          have hol : olds.length = len * i.size := by rw [← hos.1, hg, his, hlen]
          have hnl : vs2.length = m * i.size := by rw [← hvs2.1, hm, his]
          have hgr := run_append_grow (P := E.P) w t ty e i z hT.1.1 hi hiz ⟨c.σ o, 0, none⟩ len cap olds hol hocell ad m cap2 vs2 hnl hcell2 (by omega) (by omega) (growslice_fits (by omega) (by rw [hib]; exact hb))
          have hge := grownCap_ge w (len + m) cap e
          have hcmx : grownCap w (len + m) cap e ≤ maxLen := grownCap_le_maxLen w (len + m) cap e (by simp only [maxLen]; omega)
          generalize hgc : grownCap w (len + m) cap e = gc at hgr hge hcmx
          generalize hvs0 : olds.toArray ++ vs2.toArray ++ Builtin.zeroCells z.cells (gc - (len + m)) = blk at hgr
          have hzs : z.cells.size = k := by rw [← Array.length_toList, hzc]; exact hT.2.2.1
          have hbs : blk.size = gc * k := by
            rw [← hvs0]
            simp only [Array.size_append, List.size_toArray, size_zeroCells, hzs, hol, hnl, his, ← Nat.add_mul]
            congr 1; omega
          have hpre : ∀ (j : Nat) (b : AV), (cs ++ ys)[j]? = some b → ∃ u, blk[j]? = some u ∧ R c M w.heap b u := by
            intro j b hj
            obtain ⟨u, hu, hr⟩ := (hos.append hvs2).2 j b hj
            refine ⟨u, ?_, hr⟩
            have hlt : j < (olds.toArray ++ vs2.toArray).size := by
              have := (List.getElem?_eq_some_iff.1 hu).1
              simpa using this
            rw [← hvs0, Array.getElem?_append_left hlt]
            have : olds.toArray ++ vs2.toArray = (olds ++ vs2).toArray := by simp
            rw [this]; simpa using hu
          have hup := s.sim.sim.realloc o cs (cs ++ ys) blk e ho (by rw [List.length_append, hm]; have := Nat.mul_pos hm0 hk0; omega) (by rw [hbs, List.length_append, hm, hg, ← hlen, ← Nat.add_mul]; exact Nat.mul_le_mul_right _ hge) hpre
          refine ⟨.slice (some ⟨w.heap.size, 0, none⟩) (len + m) gc, w.drew.alloc (.cells blk e), _, _, _, ?_, h, hup.1, ⟨rfl, rfl, rfl, by simp⟩, s.sim.mk' hup.1 hup.2, ?_⟩
          · simp only [execOp, resolve, invoke, builtin, Sem.run_bind, Sem.run_pure, Result.andThen_ok, List.map_toArray, List.map_cons, List.map_nil, hv, hv2]
            rw [hgr]; rfl
          · refine .sl _ _ _ _ _ _ ?_ rfl fun _ => ⟨by rw [Nat.add_mul, hlen]; omega, gc, ?_, hge, hcmx, ?_, by have := Nat.mul_le_mul_right k hge; rw [Nat.add_mul, hlen] at this; omega⟩
            · exact ⟨.mem (cs ++ ys), by rw [List.getElem?_set_self (List.getElem?_eq_some_iff.1 ho).1], (fun h => by cases h), fun cs2 e2 => by injection e2 with e2; subst e2; simp [hm, hg]⟩
            · show _ = Value.slice (some ⟨upd c.σ o w.heap.size o, 0, none⟩) (len + m) gc
              rw [upd_same]
            · show 0 + gc * k ≤ upd c.cap o blk.size o
              rw [upd_same, hbs]; omega
/-- append to nil. -/
theorem ok_appendNil (x y : Operand) (t e : TypeId) (k by' : Nat) (ez : List Value) (ht : E.tab t = some (.sl e k by' ez)) (hx : ev E T x = .nils)
    (m : Nat) (ys : List AV) (hy : rdA M (ev E T y) = some (m, ys)) (hm : ys.length = m * k) (h1 : ys.all AV.one = true) (hb : m * by' ≤ 140737488355328) (hm0 : 0 < m) (h : N (.sl k M.length 0 m (m * k)) (M ++ [.mem ys])) :
    OpOk E sz ⟨dst, .call ⟨.builtin .append, #[x, y], #[t, t]⟩, ty, pos, after, gd⟩ T M N :=
  .val fun c a w s => by
    have hT := E.ok t _ ht
    obtain ⟨i, z, hi, his, hib, hiz, hzc⟩ := hT.run_elem
    have hk0 : 0 < k := hT.2.2.2.1
    have hby0 : 0 < by' := hT.2.2.2.2.1
    have hR := ev_R s x
    rw [hx] at hR
    generalize hv : a.eval x = v at hR
    cases hR
    obtain ⟨A, cap2, hv2, hA0, hA1⟩ := rdA_R s.sim.sim (ev_R s y) hy
    have hsmall : m ≤ 140737488355328 := Nat.le_trans (Nat.le_mul_of_pos_right _ hby0) hb
    cases A with
    | none => obtain ⟨h0, _⟩ := hA0 rfl; omega
    | some ad =>
      rcases hA1 ad rfl with ⟨h0, h2⟩ | ⟨hsp, cur2, ty2, fr2, hb2, hys⟩
      · omega
      obtain ⟨vs2, hvs2, hcell2⟩ := vals_of w rfl hsp hb2 hys
      have hnl : vs2.length = m * i.size := by rw [← hvs2.1, hm, his]
      have hgr := run_append_nil (P := E.P) w t ty e i z hT.1.1 hi hiz ad m cap2 vs2 hnl hcell2 (by omega) (by omega) (by rw [hib]; omega)
      have hge := grownCap_ge w m 0 e
      have hcmx : grownCap w m 0 e ≤ maxLen := grownCap_le_maxLen w m 0 e (by simp only [maxLen]; omega)
      generalize hgc : grownCap w m 0 e = gc at hgr hge hcmx
      generalize hvs0 : vs2.toArray ++ Builtin.zeroCells z.cells (gc - m) = blk at hgr
      have hzs : z.cells.size = k := by rw [← Array.length_toList, hzc]; exact hT.2.2.1
      have hbs : blk.size = gc * k := by
        rw [← hvs0]
        simp only [Array.size_append, List.size_toArray, size_zeroCells, hzs, hnl, his, ← Nat.add_mul]
        congr 1; omega
      have hpre : ∀ (j : Nat) (b : AV), ys[j]? = some b → ∃ u, blk[j]? = some u ∧ R c M w.heap b u := by
        intro j b hj
        obtain ⟨u, hu, hr⟩ := hvs2.2 j b hj
        refine ⟨u, ?_, hr⟩
        have hlt : j < vs2.toArray.size := by
          have := (List.getElem?_eq_some_iff.1 hu).1
          simpa using this
        rw [← hvs0, Array.getElem?_append_left hlt]
        simpa using hu
      have hup := s.sim.sim.alloc ys blk e (by rw [hbs, hm]; exact Nat.mul_le_mul_right _ hge) hpre
      refine ⟨.slice (some ⟨w.heap.size, 0, none⟩) m gc, w.drew.alloc (.cells blk e), _, _, _, ?_, h, hup.1, ⟨rfl, rfl, rfl, by simp⟩, s.sim.mk' hup.1 hup.2, ?_⟩
      · simp only [execOp, resolve, invoke, builtin, Sem.run_bind, Sem.run_pure, Result.andThen_ok, List.map_toArray, List.map_cons, List.map_nil, hv, hv2]
        rw [hgr]; rfl
      · refine .sl _ _ _ _ _ _ ?_ rfl fun _ => ⟨by omega, gc, ?_, hge, hcmx, ?_, by have := Nat.mul_le_mul_right k hge; omega⟩
        · exact ⟨.mem ys, by simp, (fun h => by cases h), fun cs2 e2 => by injection e2 with e2; subst e2; omega⟩
        · show _ = Value.slice (some ⟨upd c.σ M.length w.heap.size M.length, 0, none⟩) m gc
          rw [upd_same]
        · show 0 + gc * k ≤ upd c.cap M.length blk.size M.length
          rw [upd_same, hbs]; omega

/-! ### Cuts -/
def bdA (E : Env) (T : Tm) (x : Option Operand) (d : Int) : Option Int :=
  match x with
  | none => some d
  | some y => match ev E T y with
    | .int _ n => some n
    | _ => none
theorem bdA_R {c : Ctx} {a : Act} {w : World} (s : St E c sz T M a w) {x : Option Operand} {d n : Int} (h : bdA E T x d = some n) : (x.map a.eval = none ∧ n = d) ∨ ∃ k, x.map a.eval = some (.int k n) := by
  cases x with
  | none => injection h with h; exact .inl ⟨rfl, h.symm⟩
  | some y =>
    have hR := ev_R s y
    simp only [bdA] at h
    split at h
    · rename_i k n' hev
      injection h with h; subst h
      rw [hev] at hR
      generalize hv : a.eval y = v at hR
      cases hR
      exact .inr ⟨k, by simp [hv]⟩
    · cases h
theorem run_bounds {P : Program} {w : World} (isS : Bool) (len cap : Nat) {lo hi : Option Value} {l h : Int} (hlo : (lo = none ∧ l = 0) ∨ ∃ k, lo = some (.int k l)) (hhi : (hi = none ∧ h = len) ∨ ∃ k, hi = some (.int k h)) (h0 : 0 ≤ l) (h1 : l ≤ h) (h2 : h ≤ cap) :
    (Instr.sliceBounds isS len cap lo hi none).run P w = .ok (l.toNat, h.toNat, cap) w := by
  have hn : (h.toNat : Int) = h := by omega
  have hh : 0 ≤ h := by omega
  rcases hlo with ⟨rfl, rfl⟩ | ⟨k1, rfl⟩ <;> rcases hhi with ⟨rfl, rfl⟩ | ⟨k2, rfl⟩ <;> simp_all [Instr.sliceBounds, Instr.sliceBound, asIntOf]
theorem ok_slicef (t : TypeId) (x : Operand) (lo hi : Option Operand) (k : Nat) (xs : List AV) (e : TypeId) (by' : Nat) (ez : List Value) (ht : E.tab t = some (.sl e k by' ez)) (hx : ev E T x = .fz k xs) (l h : Int) (hlo : bdA E T lo 0 = some l) (hhi : bdA E T hi xs.length = some h)
    (h0 : 0 ≤ l) (h1 : l ≤ h) (h2 : h ≤ xs.length) (hN : N (.fz k ((xs.drop l.toNat).take (h.toNat - l.toNat))) M) : OpOk E sz ⟨dst, .slice t x lo hi none, ty, pos, after, gd⟩ T M N :=
  .pure _ hN fun c a w s => by
    have hR := ev_R s x
    rw [hx] at hR
    generalize hv : a.eval x = v at hR
    have hT := E.ok t _ ht
    obtain ⟨i, z, hi', his, hib, hiz, hzc⟩ := hT.run_elem
    cases hR with
    | fz0 _ A cap =>
      have e1 : l = 0 := by simp at h2; omega
      have e2 : h = 0 := by simp at h2; omega
      subst e1; subst e2
      have hb := run_bounds (P := E.P) (w := w) true 0 cap (bdA_R s hlo) (bdA_R s hhi) h0 h1 (by simp)
      refine ⟨.slice (if cap = 0 then A else A.map (·.add (0 * i.size))) 0 (cap - 0), by simp [execOp, Instr.sliceAt, Instr.slice, underlying, hT.1.1, hv, hb, sizeOf, typeInfo, hi'], ?_⟩
      simp only [Int.toNat_zero, List.drop_nil, List.take_nil]
      exact .fz0 k _ _
    | fz _ _ B off cap f cur ty' fr hp hb' hl hk hf hr =>
      have hb := run_bounds (P := E.P) (w := w) true xs.length cap (bdA_R s hlo) (bdA_R s hhi) h0 h1 (by omega)
      refine ⟨.slice (if cap = l.toNat then some ⟨B, off, none⟩ else (some ⟨B, off, none⟩ : Option Addr).map (·.add (l.toNat * i.size))) (h.toNat - l.toNat) (cap - l.toNat), by simp [execOp, Instr.sliceAt, Instr.slice, underlying, hT.1.1, hv, hb, sizeOf, typeInfo, hi'], ?_⟩
      by_cases hlh : l = h
      · subst hlh
        rw [Nat.sub_self, List.take_zero]
        exact .fz0 k _ _
      · have hlt : l.toNat < h.toNat := by omega
        rw [if_neg (by omega)]
        simp only [Option.map_some, add_plain, his]
        have hlen : ((xs.drop l.toNat).take (h.toNat - l.toNat)).length = h.toNat - l.toNat := by simp; omega
        have hk2 : ∀ x ∈ (xs.drop l.toNat).take (h.toNat - l.toNat), x.cells.length = k := fun x hx => hk x (List.mem_of_mem_drop (List.mem_of_mem_take hx))
        have hfl2 := flat_length hk2
        have hfl := flat_length hk
        have hsub : ∀ (q : Nat) (b : AV), (flat ((xs.drop l.toNat).take (h.toNat - l.toNat)))[q]? = some b → (flat xs)[l.toNat * k + q]? = some b := by
          intro q b hq
          have hk0 : 0 < k := hT.2.2.2.1
          have hql := (List.getElem?_eq_some_iff.1 hq).1
          rw [hfl2, hlen] at hql
          have hqd : q / k < h.toNat - l.toNat := Nat.div_lt_of_lt_mul (by rw [Nat.mul_comm]; exact hql)
          have hqm : q % k < k := Nat.mod_lt _ hk0
          have hqe : q / k * k + q % k = q := by rw [Nat.mul_comm]; exact Nat.div_add_mod q k
          have hge : ((xs.drop l.toNat).take (h.toNat - l.toNat))[q / k]? = some xs[l.toNat + q / k] := by
            rw [List.getElem?_take, if_pos hqd, List.getElem?_drop, List.getElem?_eq_getElem (by omega)]
          have g1 := flat_get (q / k) (q % k) _ hk2 hge hqm
          have g2 := flat_get (l.toNat + q / k) (q % k) _ hk (List.getElem?_eq_getElem (show l.toNat + q / k < xs.length by omega)) hqm
          rw [hqe, hq] at g1
          rw [← g1] at g2
          rw [← g2]; congr 1; rw [Nat.add_mul]; omega
        have := R.fz (c := c) (M := M) (h := w.heap) k ((xs.drop l.toNat).take (h.toNat - l.toNat)) B (off + l.toNat * k) (cap - l.toNat) (fun q => f (l.toNat * k + q)) cur ty' fr hp hb' (by rw [hlen]; omega) hk2
          (fun q hq => by
            rw [hfl2, hlen] at hq
            rw [Nat.add_assoc]
            refine hf _ ?_
            rw [hfl]
            have : l.toNat * k + (h.toNat - l.toNat) * k ≤ xs.length * k := by rw [← Nat.add_mul]; exact Nat.mul_le_mul_right _ (by omega)
            omega)
          (fun q b hq => hr _ b (hsub q b hq))
        rw [hlen] at this
        exact this
theorem ok_sliceStr (t : TypeId) (x : Operand) (lo hi : Option Operand) (ht : E.tab t = some .str) (q : ByteArray) (hx : ev E T x = .str q) (l h : Int) (hlo : bdA E T lo 0 = some l) (hhi : bdA E T hi q.size = some h)
    (h0 : 0 ≤ l) (h1 : l ≤ h) (h2 : h ≤ q.size) (hN : N (.str (q.extract l.toNat h.toNat)) M) : OpOk E sz ⟨dst, .slice t x lo hi none, ty, pos, after, gd⟩ T M N :=
  .pure _ hN fun c a w s => by
    have hR := ev_R s x
    rw [hx] at hR
    generalize hv : a.eval x = v at hR
    have hT := E.ok t _ ht
    cases hR
    have hb := run_bounds (P := E.P) (w := w) false q.size q.size (bdA_R s hlo) (bdA_R s hhi) h0 h1 h2
    exact ⟨.string (q.extract l.toNat h.toNat), by simp [execOp, Instr.sliceAt, Instr.slice, underlying, hT.1, hv, hb], .str _⟩
theorem ok_indexStr (t : TypeId) (x y : Operand) (ht : E.tab t = some .str) (q : ByteArray) (hx : ev E T x = .str q) (ik : IntKind) (i : Int) (hy : ev E T y = .int ik i) (h0 : 0 ≤ i) (h1 : i < q.size) (hN : N (.int .u8 ((q.data.getD i.toNat 0).toNat : Int)) M) :
    OpOk E sz ⟨dst, .index t x y, ty, pos, after, gd⟩ T M N :=
  .pure _ hN fun c a w s => by
    have hR := ev_R s x
    have hI := ev_R s y
    rw [hx] at hR
    rw [hy] at hI
    generalize hv : a.eval x = v at hR
    generalize hv2 : a.eval y = v2 at hI
    cases hI
    cases hR
    have hT := E.ok t _ ht
    have hlt : i.toNat < q.size := by omega
    refine ⟨.int .u8 ((q.data.getD i.toNat 0).toNat : Int), ?_, .int _ _⟩
    have : q[i.toNat]? = some (q.data.getD i.toNat 0) := by
      rw [getElem?_pos q i.toNat hlt]
      congr 1
      have hlt' : i.toNat < q.data.size := hlt
      rw [Array.getD_eq_getD_getElem?, Array.getElem?_eq_getElem hlt']; rfl
    simp [execOp, Instr.index, hv, hv2, asIntOf, underlying, hT.1, h0, this]
end
end Go.Ax
