/- What each kind of operation comes to, and that it is so. -/
import Derived.Test.YtnbfoiidlbfbeaaGreatAx2
import Derived.Maps.AppendAt
set_option linter.unusedVariables false
set_option linter.unusedSimpArgs false
namespace Go.Ax
open Go.RowKit (Below)
open Go.Proofs (Enters enters_of)

/-! ### Types -/
section
variable {P : Program} {t : TypeId} {d : TD} (h : TDok P t d) (w : World)
include h
theorem TDok.info : InfoIs P t d.size d.zero := by
  cases d <;> simp only [TDok] at h <;> first | exact h.2 | exact h.1.2
theorem TDok.run_info : ∃ i, P.info? t = some i ∧ i.size = d.size ∧ i.zero = some d.zero := by
  have := h.info
  unfold InfoIs at this
  obtain ⟨i, hi, he⟩ := Option.map_eq_some_iff.1 this
  simp only [Prod.mk.injEq] at he
  exact ⟨i, hi, he⟩
theorem TDok.run_sizeOf : (sizeOf t).run P w = .ok d.size w := by
  obtain ⟨i, hi, hs, hz⟩ := h.run_info
  simp [sizeOf, typeInfo, hi, hs]
theorem TDok.run_zeroValue : (zeroValue t).run P w = .ok d.zero w := by
  obtain ⟨i, hi, hs, hz⟩ := h.run_info
  simp [zeroValue, typeInfo, hi, hz]
theorem TDok.run_isAgg : (isAgg t).run P w = .ok d.isAgg w := by
  cases d with
  | int k => simp [isAgg, underlying, h.1, TD.isAgg]
  | str => simp [isAgg, underlying, h.1, TD.isAgg]
  | bool => simp [isAgg, underlying, h.1, TD.isAgg]
  | oth z =>
    obtain ⟨u, hu, hp⟩ := Option.map_eq_some_iff.1 h.1.1
    cases u <;> simp [Plain] at hp <;> simp [isAgg, underlying, hu, TD.isAgg]
  | sl e k b z => simp [isAgg, underlying, h.1.1, TD.isAgg]
  | st fs size z =>
    obtain ⟨u, hu, hp⟩ := Option.map_eq_some_iff.1 h.1.1
    cases u <;> simp at hp
    simp [isAgg, underlying, hu, TD.isAgg]
  | ar n e k z => simp [isAgg, underlying, h.1.1, TD.isAgg]
end

/-! ### Cells -/
def AV.one : AV → Bool
  | .any | .agg _ | .tup _ => false
  | _ => true
def AV.whole : AV → Bool
  | .agg cs => cs.all AV.one
  | .any | .tup _ => false
  | _ => true
theorem R.one {c : Ctx} {M : List AO} {h : Array Obj} {a : AV} {v : Value} (r : R c M h a v) (ha : a.one = true) : v.oneCell' = true := by
  cases r <;> first | rfl | assumption | (simp [AV.one] at ha)
theorem R.cells {c : Ctx} {M : List AO} {h : Array Obj} {a : AV} {v : Value} (r : R c M h a v) (ha : a.whole = true) : Rl c M h a.cells v.cells.toList ∧ ∀ u ∈ v.cells.toList, u.oneCell' = true := by
  cases r with
  | agg cs arr fv hs hf hr =>
    simp only [AV.whole, List.all_eq_true] at ha
    have hrl : Rl c M h cs arr.toList := ⟨by simp [hs], fun i a hi => by
      have hlt := (List.getElem?_eq_some_iff.1 hi).1
      exact ⟨fv i, by simpa using hf i hlt, hr i a hi⟩⟩
    refine ⟨hrl, fun u hu => ?_⟩
    have hu : u ∈ arr.toList := hu
    obtain ⟨i, hi, rfl⟩ := List.getElem_of_mem hu
    have hi' : i < cs.length := by rw [hrl.1]; exact hi
    obtain ⟨u2, hu2, hr2⟩ := hrl.2 i cs[i] (List.getElem?_eq_getElem hi')
    have : u2 = arr.toList[i] := by rw [List.getElem?_eq_getElem hi] at hu2; exact (Option.some.inj hu2).symm
    subst this
    exact hr2.one (ha _ (List.getElem_mem hi'))
  | any v => cases ha
  | tup cs arr fv hs hf hr => cases ha
  | bool b => exact ⟨.cons (.bool b) (.nil ..), fun u hu => by simp [Value.cells] at hu; subst hu; rfl⟩
  | int k n => exact ⟨.cons (.int k n) (.nil ..), fun u hu => by simp [Value.cells] at hu; subst hu; rfl⟩
  | str s => exact ⟨.cons (.str s) (.nil ..), fun u hu => by simp [Value.cells] at hu; subst hu; rfl⟩
  | nilp => exact ⟨.cons .nilp (.nil ..), fun u hu => by simp [Value.cells] at hu; subst hu; rfl⟩
  | nili => exact ⟨.cons .nili (.nil ..), fun u hu => by simp [Value.cells] at hu; subst hu; rfl⟩
  | nilf => exact ⟨.cons .nilf (.nil ..), fun u hu => by simp [Value.cells] at hu; subst hu; rfl⟩
  | nils => exact ⟨.cons .nils (.nil ..), fun u hu => by simp [Value.cells] at hu; subst hu; rfl⟩
  | ifc t v => exact ⟨.cons (.ifc t v) (.nil ..), fun u hu => by simp [Value.cells] at hu; subst hu; rfl⟩
  | ptr o off g v hk h1 hv =>
    have : v.cells = #[v] := by cases v <;> first | rfl | cases h1
    rw [this]
    exact ⟨.cons (.ptr o off g v hk h1 hv) (.nil ..), fun u hu => by simp at hu; subst hu; exact h1⟩
  | fp cs B off f cur ty fr hp hb hf hr => exact ⟨.cons (.fp cs B off f cur ty fr hp hb hf hr) (.nil ..), fun u hu => by simp [Value.cells] at hu; subst hu; rfl⟩
  | sl k o off len g v hk h1 hv =>
    have : v.cells = #[v] := by cases v <;> first | rfl | cases h1
    rw [this]
    exact ⟨.cons (.sl k o off len g v hk h1 hv) (.nil ..), fun u hu => by simp at hu; subst hu; exact h1⟩
  | fz0 k A cap => exact ⟨.cons (.fz0 k A cap) (.nil ..), fun u hu => by simp [Value.cells] at hu; subst hu; rfl⟩
  | fz k xs B off cap f cur ty fr hp hb hl hk hf hr => exact ⟨.cons (.fz k xs B off cap f cur ty fr hp hb hl hk hf hr) (.nil ..), fun u hu => by simp [Value.cells] at hu; subst hu; rfl⟩
  | fn f caps arr fv hs hf hr => exact ⟨.cons (.fn f caps arr fv hs hf hr) (.nil ..), fun u hu => by simp [Value.cells] at hu; subst hu; rfl⟩

theorem add_plain (b i j : Nat) : (⟨b, i, none⟩ : Addr).add j = ⟨b, i + j, none⟩ := by unfold Addr.add; split <;> simp_all
theorem cell_of {w : World} {b : Nat} {cur : Array Value} {ty : TypeId} {fr : Nat × Nat} (hb : w.heap[b]? = some (.cells cur ty fr)) (i : Nat) : w.cell? ⟨b, i, none⟩ = cur[i]? := by
  simp [World.cell?, hb]
theorem frozen_of {w : World} {b : Nat} {cur : Array Value} {ty : TypeId} (hb : w.heap[b]? = some (.cells cur ty (0, 0))) (i : Nat) : w.frozen? ⟨b, i, none⟩ = false := by
  simp [World.frozen?, hb]

/-- What is loaded out of cells. -/
def loadA (d : TD) (cs : List AV) : Option AV :=
  if d.isAgg then (if d.size ≤ cs.length then some (.agg (cs.take d.size)) else none) else cs[0]?
theorem run_loadVar {P : Program} {t : TypeId} {d : TD} (hd : TDok P t d) {c : Ctx} {M : List AO} {w : World} {b off : Nat} {cur : Array Value} {ty : TypeId} {fr : Nat × Nat} (hb : w.heap[b]? = some (.cells cur ty fr))
    {cs : List AV} (hc : ∀ (i : Nat) (a : AV), cs[i]? = some a → ∃ u, cur[off + i]? = some u ∧ R c M w.heap a u) {r : AV} (hr : loadA d cs = some r) :
    ∃ v, (loadVar t ⟨b, off, none⟩).run P w = .ok v w ∧ R c M w.heap r v := by
  unfold loadA at hr
  by_cases ha : d.isAgg = true
  · rw [if_pos ha] at hr
    split at hr
    · rename_i hl
      injection hr with hr
      subst hr
      have key : ∀ j (v : Value), ((cur.toList.drop off).take d.size)[j]? = some v → w.cell? ((⟨b, off, none⟩ : Addr).add j) = some v := by
        intro j v hj
        rw [List.getElem?_take] at hj
        split at hj
        · rw [List.getElem?_drop] at hj
          rw [add_plain, cell_of hb]; simpa using hj
        · cases hj
      have hlen : ((cur.toList.drop off).take d.size).length = d.size := by
        rcases Nat.eq_zero_or_pos d.size with h0 | h0
        · simp [h0]
        · have hi : cs[d.size - 1]? = some cs[d.size - 1] := List.getElem?_eq_getElem (by omega)
          obtain ⟨u, hu, _⟩ := hc _ _ hi
          have := lt_of_get hu
          simp; omega
      have hl' := run_loadCells_list (P := P) w ⟨b, off, none⟩ ((cur.toList.drop off).take d.size) key
      rw [hlen] at hl'
      refine ⟨.agg ((cur.toList.drop off).take d.size).toArray, ?_, ?_⟩
      · simp [loadVar, hd.run_isAgg, ha, hd.run_sizeOf, hl']
      · refine R.agg' ⟨by rw [hlen]; simp [hl], fun i a hi => ?_⟩
        rw [List.getElem?_take] at hi
        split at hi
        · rename_i hlt
          obtain ⟨u, hu, hr⟩ := hc i a hi
          exact ⟨u, by rw [List.getElem?_take, if_pos hlt, List.getElem?_drop]; simpa using hu, hr⟩
        · cases hi
    · cases hr
  · have ha' : d.isAgg = false := by simpa using ha
    rw [if_neg ha] at hr
    obtain ⟨u, hu, hR⟩ := hc 0 r hr
    refine ⟨u, ?_, hR⟩
    have : w.cell? ⟨b, off, none⟩ = some u := by rw [cell_of hb]; simpa using hu
    simp [loadVar, hd.run_isAgg, ha', load, Sem.run, this]

/-- A store of cells into a block. -/
def putCells (cur : Array Value) (off : Nat) (vs : List Value) : Array Value := (cur.toList.take off ++ vs ++ cur.toList.drop (off + vs.length)).toArray
theorem run_storeCells {P : Program} (b : Nat) (ty : TypeId) : ∀ (vs : List Value) (off i : Nat) (cur : Array Value) (w : World), w.heap[b]? = some (.cells cur ty (0, 0)) → (∀ u ∈ vs, u.oneCell' = true) → off + i + vs.length ≤ cur.size →
    ∃ w', (storeCells ⟨b, off, none⟩ vs i).run P w = .ok () w' ∧ WF w w' ∧ w'.heap.size = w.heap.size ∧ w'.heap[b]? = some (.cells (putCells cur (off + i) vs) ty (0, 0)) ∧ ∀ b' : Nat, b' ≠ b → w'.heap[b']? = w.heap[b']? := by
  intro vs
  induction vs with
  | nil =>
    intro off i cur w hb _ _
    refine ⟨w, rfl, .refl _, rfl, ?_, fun _ _ => rfl⟩
    simp [putCells, hb]
  | cons v rest ih =>
    intro off i cur w hb h1 hl
    have hc : ∃ u, w.cell? ((⟨b, off, none⟩ : Addr).add i) = some u := by
      rw [add_plain, cell_of hb]
      exact ⟨_, Array.getElem?_eq_getElem (by simp at hl; omega)⟩
    obtain ⟨u, hu⟩ := hc
    have hfz : w.frozen? ((⟨b, off, none⟩ : Addr).add i) = false := by rw [add_plain]; exact frozen_of hb _
    have hst : (store ((⟨b, off, none⟩ : Addr).add i) v).run P w = .ok () (w.setCell ((⟨b, off, none⟩ : Addr).add i) v) := by
      have := run_store P w ((⟨b, off, none⟩ : Addr).add i) v .plain (h1 v (by simp))
      rw [this]; simp [hu, hfz]
    have hb2 : (w.setCell ((⟨b, off, none⟩ : Addr).add i) v).heap[b]? = some (.cells (cur.setIfInBounds (off + i) v) ty (0, 0)) := by
      rw [add_plain]; simp [World.setCell, Array.getElem?_modify, hb]
    obtain ⟨w', hr, hw, hs, hb', ho⟩ := ih off (i + 1) _ _ hb2 (fun u hu => h1 u (by simp [hu])) (by simp at hl ⊢; omega)
    refine ⟨w', ?_, ?_, ?_, ?_, ?_⟩
    · simp only [storeCells, Sem.run_bind, hst, Result.andThen_ok, hr]
    · exact WF.trans (b := w.setCell ((⟨b, off, none⟩ : Addr).add i) v) ⟨rfl, rfl, rfl, by simp⟩ hw
    · rw [hs]; simp
    · rw [hb']
      congr 2
      unfold putCells
      congr 1
      have hlt : off + i < cur.toList.length := by simp at hl ⊢; omega
      have e1 : (cur.setIfInBounds (off + i) v).toList = cur.toList.set (off + i) v := by simp
      rw [e1, show off + (i + 1) = off + i + 1 from by omega, List.take_set, List.drop_set_of_lt (by omega), List.length_cons, show off + i + 1 + rest.length = off + i + (rest.length + 1) from by omega]
      have : (cur.toList.take (off + i + 1)).set (off + i) v = cur.toList.take (off + i) ++ [v] := by
        rw [List.take_succ_eq_append_getElem hlt, List.set_append_right _ _ (by simp; omega)]
        congr 1
        have : off + i - (cur.toList.take (off + i)).length = 0 := by simp; omega
        rw [this]; rfl
      rw [this]; simp
    · intro b' hne
      rw [ho b' hne, add_plain]
      simp only [World.setCell, Array.getElem?_modify]
      rw [if_neg (by omega)]

theorem putCells_get {cur : Array Value} {off : Nat} {vs : List Value} (hl : off + vs.length ≤ cur.size) (i : Nat) : (putCells cur off vs)[i]? = if i < off then cur[i]? else if i < off + vs.length then vs[i - off]? else cur[i]? := by
  unfold putCells
  have h1 : (cur.toList.take off).length = off := by simp; omega
  simp only [List.getElem?_toArray]
  rw [List.append_assoc]
  by_cases c1 : i < off
  · rw [if_pos c1, List.getElem?_append_left (by omega), List.getElem?_take, if_pos c1]; simp
  · rw [if_neg c1, List.getElem?_append_right (by omega), h1]
    by_cases c2 : i < off + vs.length
    · rw [if_pos c2, List.getElem?_append_left (by omega)]
    · rw [if_neg c2, List.getElem?_append_right (by omega), List.getElem?_drop]
      simp only [Array.getElem?_toList]
      congr 1; omega
theorem putCells_size {cur : Array Value} {off : Nat} {vs : List Value} (hl : off + vs.length ≤ cur.size) : (putCells cur off vs).size = cur.size := by
  unfold putCells; simp; omega

/-- The same of abstract cells. -/
def putA' (cs : List AV) (off : Nat) (xs : List AV) : List AV := cs.take off ++ xs ++ cs.drop (off + xs.length)
theorem putA'_get {cs : List AV} {off : Nat} {xs : List AV} (hl : off + xs.length ≤ cs.length) (i : Nat) : (putA' cs off xs)[i]? = if i < off then cs[i]? else if i < off + xs.length then xs[i - off]? else cs[i]? := by
  unfold putA'
  have h1 : (cs.take off).length = off := by simp; omega
  rw [List.append_assoc]
  by_cases c1 : i < off
  · rw [if_pos c1, List.getElem?_append_left (by omega), List.getElem?_take, if_pos c1]
  · rw [if_neg c1, List.getElem?_append_right (by omega), h1]
    by_cases c2 : i < off + xs.length
    · rw [if_pos c2, List.getElem?_append_left (by omega)]
    · rw [if_neg c2, List.getElem?_append_right (by omega), List.getElem?_drop]
      congr 1; omega
theorem putA'_length {cs : List AV} {off : Nat} {xs : List AV} (hl : off + xs.length ≤ cs.length) : (putA' cs off xs).length = cs.length := by
  unfold putA'; simp; omega
theorem putA'_one {cs : List AV} {off : Nat} {x : AV} (hl : off < cs.length) : putA' cs off [x] = cs.set off x := by
  unfold putA'
  rw [List.set_eq_take_append_cons_drop, if_pos hl]; simp

/-! ### The operations -/
section
variable {E : Env} {sz : Nat} {T : Tm} {M : List AO} {N : AV → List AO → Prop} {dst : Option Tmp} {ty : TypeId} {pos : String} {after : Array Edge} {gd : Option (Nat × Bool)}

theorem ok_move (x : Operand) (h : N (ev E T x) M) : OpOk E sz ⟨dst, .move x, ty, pos, after, gd⟩ T M N :=
  .pure _ h fun c a w s => ⟨a.eval x, rfl, ev_R s x⟩
theorem ok_assign (x : Operand) (h : N (ev E T x) M) : OpOk E sz ⟨dst, .assign x, ty, pos, after, gd⟩ T M N :=
  .pure _ h fun c a w s => ⟨a.eval x, rfl, ev_R s x⟩
theorem ok_pick (x y z : Operand) (b : Bool) (hb : ev E T x = .bool b) (h : N (if b = true then ev E T y else ev E T z) M) : OpOk E sz ⟨dst, .pick x y z, ty, pos, after, gd⟩ T M N :=
  .pure _ h fun c a w s => by
    have hr := ev_R s x
    rw [hb] at hr
    generalize hv : a.eval x = v at hr
    cases hr
    refine ⟨if b = true then a.eval y else a.eval z, ?_, ?_⟩
    · simp [execOp, asBool, hv]
    · split
      · exact ev_R s y
      · exact ev_R s z
theorem ok_box (t : TypeId) (x : Operand) (hx : (ev E T x).whole = true) (h : N (.ptr M.length 0 (ev E T x).cells.length) (M ++ [.mem (ev E T x).cells])) : OpOk E sz ⟨dst, .box t x, ty, pos, after, gd⟩ T M N :=
  .val fun c a w s => by
    obtain ⟨hc, h1⟩ := (ev_R s x).cells hx
    have hA := s.sim.sim.alloc (ev E T x).cells (a.eval x).cells t (by rw [hc.1]; simp) (fun i b hi => by obtain ⟨u, hu, hr⟩ := hc.2 i b hi; exact ⟨u, by simpa using hu, hr⟩)
    refine ⟨.pointer (some ⟨w.heap.size, 0, none⟩), w.alloc (.cells (a.eval x).cells t), _, _, _, rfl, h, hA.1, ⟨rfl, rfl, rfl, by simp⟩, s.sim.mk' hA.1 hA.2, ?_⟩
    refine .ptr _ _ _ _ ⟨.mem (ev E T x).cells, by simp, (fun h => by cases h), fun cs e => by injection e with e; subst e; exact Nat.le_refl _⟩ rfl fun _ => ?_
    simp [upd]
theorem ok_alloc (t : TypeId) (d : TD) (hd : E.tab t = some d) (hx : (ofZ d.zero).whole = true) (h : N (.ptr M.length 0 (ofZ d.zero).cells.length) (M ++ [.mem (ofZ d.zero).cells])) : OpOk E sz ⟨dst, .alloc t, ty, pos, after, gd⟩ T M N :=
  .val fun c a w s => by
    obtain ⟨hc, h1⟩ := (ofZ_R c M w.heap d.zero).cells hx
    have hA := s.sim.sim.alloc (ofZ d.zero).cells d.zero.cells t (by rw [hc.1]; simp) (fun i b hi => by obtain ⟨u, hu, hr⟩ := hc.2 i b hi; exact ⟨u, by simpa using hu, hr⟩)
    refine ⟨.pointer (some ⟨w.heap.size, 0, none⟩), w.alloc (.cells d.zero.cells t), _, _, _, ?_, h, hA.1, ⟨rfl, rfl, rfl, by simp⟩, s.sim.mk' hA.1 hA.2, ?_⟩
    · simp [execOp, Instr.alloc, (E.ok t d hd).run_zeroValue, newVar, newRow]
    · refine .ptr _ _ _ _ ⟨.mem (ofZ d.zero).cells, by simp, (fun h => by cases h), fun cs e => by injection e with e; subst e; exact Nat.le_refl _⟩ rfl fun _ => ?_
      simp [upd]

theorem live_at {c : Ctx} {h : Array Obj} (s : Sim c M h) {o : Nat} {cs : List AV} (ho : M[o]? = some (.mem cs)) : ∃ cur ty, h[c.σ o]? = some (.cells cur ty (0, 0)) ∧ cur.size = c.cap o ∧ cs.length ≤ cur.size ∧ ∀ (i : Nat) (a : AV), cs[i]? = some a → ∃ u, cur[i]? = some u ∧ R c M h a u := s.live o cs ho

theorem ok_load (t : TypeId) (x : Operand) (o off g : Nat) (d : TD) (hd : E.tab t = some d) (hx : ev E T x = .ptr o off g) (cs : List AV) (ho : M[o]? = some (.mem cs)) (hg : cs.length = g) (r : AV) (hr : loadA d (cs.drop off) = some r) (h : N r M) :
    OpOk E sz ⟨dst, .load t x, ty, pos, after, gd⟩ T M N :=
  .pure _ h fun c a w s => by
    have hR := ev_R s x
    rw [hx] at hR
    generalize hv : a.eval x = v at hR
    cases hR with
    | ptr _ _ _ _ hk h1 hval =>
      have := hval ⟨cs, ho, hg⟩
      subst this
      obtain ⟨cur, ty', hb, hs, hl, hc⟩ := live_at s.sim.sim ho
      obtain ⟨v, hrun, hR⟩ := run_loadVar (E.ok t d hd) (off := off) hb (cs := cs.drop off) (fun i b hi => by rw [List.getElem?_drop] at hi; exact hc _ b hi) hr
      exact ⟨v, by simp [execOp, Instr.loadAt, Instr.sureAddr, hv, hrun], hR⟩
theorem ok_loadf (t : TypeId) (x : Operand) (d : TD) (hd : E.tab t = some d) (cs : List AV) (hx : ev E T x = .fp cs) (r : AV) (hr : loadA d cs = some r) (h : N r M) :
    OpOk E sz ⟨dst, .load t x, ty, pos, after, gd⟩ T M N :=
  .pure _ h fun c a w s => by
    have hR := ev_R s x
    rw [hx] at hR
    generalize hv : a.eval x = v at hR
    cases hR with
    | fp _ B off f cur ty' fr hp hb hf hr0 =>
      obtain ⟨v, hrun, hR⟩ := run_loadVar (E.ok t d hd) (off := off) hb (cs := cs) (fun i b hi => ⟨f i, hf i (List.getElem?_eq_some_iff.1 hi).1, hr0 i b hi⟩) hr
      exact ⟨v, by simp [execOp, Instr.loadAt, Instr.sureAddr, hv, hrun], hR⟩
theorem ok_store (t : TypeId) (x y : Operand) (o off g : Nat) (d : TD) (hd : E.tab t = some d) (hx : ev E T x = .ptr o off g) (cs : List AV) (ho : M[o]? = some (.mem cs)) (hg : cs.length = g)
    (hy : (ev E T y).whole = true) (hl : (ev E T y).cells.length = d.size) (hoff : off + d.size ≤ g) (h : N .any (M.set o (.mem (putA' cs off (ev E T y).cells)))) :
    OpOk E sz ⟨dst, .store t x y, ty, pos, after, gd⟩ T M N :=
  .unit fun c a w s => by
    have hR := ev_R s x
    rw [hx] at hR
    generalize hv : a.eval x = v at hR
    cases hR with
    | ptr _ _ _ _ hk h1 hval =>
      have := hval ⟨cs, ho, hg⟩
      subst this
      obtain ⟨cur, ty', hb, hs, hl', hc⟩ := live_at s.sim.sim ho
      obtain ⟨hcl, hone⟩ := (ev_R s y).cells hy
      have hlen : (a.eval y).cells.toList.length = d.size := by rw [← hcl.1, hl]
      have hfit : off + (a.eval y).cells.toList.length ≤ cur.size := by rw [hlen]; omega
      obtain ⟨w', hrun, hw, hsz, hb', ho'⟩ := run_storeCells (P := E.P) (c.σ o) ty' (a.eval y).cells.toList off 0 cur w hb hone (by simpa using hfit)
      have hup := s.sim.sim.update o cs (putA' cs off (ev E T y).cells) (putCells cur off (a.eval y).cells.toList) ty' ho (by rw [putA'_length (by rw [hl, hg]; exact hoff)]; exact Nat.le_refl _) (by rw [putCells_size hfit, hs])
        (by rw [putA'_length (by rw [hl, hg]; exact hoff), putCells_size hfit]; exact hl') (fun i b hi => by
          rw [putA'_get (by rw [hl, hg]; exact hoff)] at hi
          rw [putCells_get hfit]
          split at hi
          · rename_i c1; rw [if_pos c1]; exact hc i b hi
          · rename_i c1; rw [if_neg c1]
            split at hi
            · rename_i c2
              rw [if_pos (by rw [hlen]; rw [hl] at c2; exact c2)]
              exact hcl.2 _ b hi
            · rename_i c2
              rw [if_neg (by rw [hlen]; rw [hl] at c2; exact c2)]
              exact hc i b hi) w'.heap hsz hb' ho'
      refine ⟨w', _, c, ?_, h, hup.1, hw, s.sim.mk' hup.1 hup.2⟩
      have hsize : (a.eval y).cells.size = d.size := by rw [← hlen]; simp
      simp [execOp, Instr.storeAt, Instr.sureAddr, hv, storeVar, (E.ok t d hd).run_sizeOf, hsize, hrun]
end

end Go.Ax
