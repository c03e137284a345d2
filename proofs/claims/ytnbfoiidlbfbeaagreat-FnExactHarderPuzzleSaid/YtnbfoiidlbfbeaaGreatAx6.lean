/- More kinds of operations: literals, make, cuts of live rows, nil, bytes. -/
import Derived.Test.YtnbfoiidlbfbeaaGreatAx5
set_option linter.unusedVariables false
set_option linter.unusedSimpArgs false
namespace Go.Ax
open Go.RowKit (Below)
open Go.Proofs (Enters enters_of)

/-- The cells of a literal, part by part. -/
def fillA (place : Nat → Option (Nat × Nat)) (cells : List AV) : List (Nat × AV) → Option (List AV)
  | [] => some cells
  | (i, a) :: rest =>
    match place i with
    | none => none
    | some (off, size) => if a.whole = true ∧ a.cells.length = size ∧ off + size ≤ cells.length then fillA place (putA' cells off a.cells) rest else none

theorem foldl_put (off : Nat) : ∀ (vs : List Value) (j : Nat) (cells : Array Value), off + j + vs.length ≤ cells.size → (vs.zipIdx j).foldl (fun cs (c, j) => cs.setIfInBounds (off + j) c) cells = putCells cells (off + j) vs
  | [], j, cells, _ => by simp [putCells]
  | v :: vs, j, cells, h => by
    simp only [List.zipIdx_cons, List.foldl_cons]
    rw [foldl_put off vs (j + 1) _ (by simp at h ⊢; omega)]
    unfold putCells
    congr 1
    have hlt : off + j < cells.toList.length := by simp at h ⊢; omega
    have e1 : (cells.setIfInBounds (off + j) v).toList = cells.toList.set (off + j) v := by simp
    rw [e1, show off + (j + 1) = off + j + 1 from by omega, List.take_set, List.drop_set_of_lt (by omega), List.length_cons, show off + j + 1 + vs.length = off + j + (vs.length + 1) from by omega]
    have : (cells.toList.take (off + j + 1)).set (off + j) v = cells.toList.take (off + j) ++ [v] := by
      rw [List.take_succ_eq_append_getElem hlt, List.set_append_right _ _ (by simp; omega)]
      congr 1
      have : off + j - (cells.toList.take (off + j)).length = 0 := by simp; omega
      rw [this]; rfl
    rw [this]; simp

theorem fill_R {c : Ctx} {M : List AO} {h : Array Obj} {place : Nat → Option (Nat × Nat)} : ∀ {parts : List (Nat × AV)} {vals : List (Nat × Value)} {cells : List AV} {cur : Array Value} {r : List AV},
    parts.length = vals.length → (∀ (q : Nat) (i : Nat) (a : AV), parts[q]? = some (i, a) → ∃ v, vals[q]? = some (i, v) ∧ R c M h a v) → Rl c M h cells cur.toList → fillA place cells parts = some r → ∃ out, Instr.fill place cur vals = some out ∧ Rl c M h r out.toList
  | [], vals, cells, cur, r, hl, hp, hc, hf => by
    injection hf with hf; subst hf
    cases vals with
    | nil => exact ⟨cur, rfl, hc⟩
    | cons _ _ => cases hl
  | (i, a) :: rest, vals, cells, cur, r, hl, hp, hc, hf => by
    cases vals with
    | nil => cases hl
    | cons p vals =>
      obtain ⟨v, hv, hr⟩ := hp 0 i a rfl
      simp at hv; subst hv
      simp only [fillA] at hf
      cases hpl : place i with
      | none => rw [hpl] at hf; cases hf
      | some os =>
        obtain ⟨off, size⟩ := os
        rw [hpl] at hf
        simp only at hf
        split at hf
        · rename_i hcond
          obtain ⟨hw, hsz, hfit⟩ := hcond
          obtain ⟨hrl, _⟩ := hr.cells hw
          have hvs : v.cells.toList.length = size := by rw [← hrl.1, hsz]
          have hcs : cells.length = cur.size := by simpa using hc.1
          have hvs' : v.cells.size = size := by rw [← hvs]; simp
          have hput : Rl c M h (putA' cells off a.cells) (putCells cur off v.cells.toList).toList := by
            refine ⟨?_, fun q b hq => ?_⟩
            · have e2 := putCells_size (cur := cur) (off := off) (vs := v.cells.toList) (by rw [hvs]; omega)
              have e3 : (putCells cur off v.cells.toList).toList.length = cur.size := (Array.length_toList ..).trans e2
              rw [putA'_length (by rw [hsz]; exact hfit), e3, hcs]
            · rw [putA'_get (by rw [hsz]; exact hfit)] at hq
              rw [Array.getElem?_toList, putCells_get (by rw [hvs]; omega)]
              split at hq
              · rename_i c1; rw [if_pos c1]
                obtain ⟨u, hu, hR⟩ := hc.2 q b hq
                exact ⟨u, by simpa using hu, hR⟩
              · rename_i c1; rw [if_neg c1]
                split at hq
                · rename_i c2; rw [if_pos (by rw [hvs]; rw [hsz] at c2; exact c2)]; exact hrl.2 _ b hq
                · rename_i c2; rw [if_neg (by rw [hvs]; rw [hsz] at c2; exact c2)]
                  obtain ⟨u, hu, hR⟩ := hc.2 q b hq
                  exact ⟨u, by simpa using hu, hR⟩
          obtain ⟨out, ho, hR⟩ := fill_R (place := place) (parts := rest) (vals := vals) (cur := putCells cur off v.cells.toList) (by simpa using hl) (fun q i' a' hq => by simpa using hp (q + 1) i' a' (by simpa using hq)) hput hf
          refine ⟨out, ?_, hR⟩
          have hfold := foldl_put off v.cells.toList 0 cur (by rw [hvs]; omega)
          have hfold2 : v.cells.zipIdx.foldl (fun cs (c, j) => cs.setIfInBounds (off + j) c) cur = putCells cur off v.cells.toList := by
            rw [Nat.add_zero] at hfold
            rw [← hfold, ← Array.foldl_toList, Array.toList_zipIdx]
          simp only [Instr.fill, hpl]
          rw [if_neg (by simp [hvs']; omega), hfold2]
          exact ho
        · cases hf

section
variable {E : Env} {sz : Nat} {T : Tm} {M : List AO} {N : AV → List AO → Prop} {dst : Option Tmp} {ty : TypeId} {pos : String} {after : Array Edge} {gd : Option (Nat × Bool)}

theorem parts_R {c : Ctx} {a : Act} {w : World} (s : St E c sz T M a w) (parts : Array (Nat × Operand)) :
    (parts.toList.map fun p => (p.1, ev E T p.2)).length = ((parts.map fun (i, x) => (i, a.eval x)).toList).length ∧
    ∀ (q : Nat) (i : Nat) (b : AV), (parts.toList.map fun p => (p.1, ev E T p.2))[q]? = some (i, b) → ∃ v, ((parts.map fun (i, x) => (i, a.eval x)).toList)[q]? = some (i, v) ∧ R c M w.heap b v := by
  refine ⟨by simp, fun q i b hq => ?_⟩
  rw [List.getElem?_map] at hq
  obtain ⟨p, hp, he⟩ := Option.map_eq_some_iff.1 hq
  simp only [Prod.mk.injEq] at he
  obtain ⟨rfl, rfl⟩ := he
  exact ⟨a.eval p.2, by
    have hp' : parts[q]? = some p := by simpa using hp
    simp [hp'], ev_R s p.2⟩

/-- What a slice literal lays. -/
def zerosA (ez : List Value) (n : Nat) : List AV := (List.replicate n (ez.map ofV)).flatten
theorem ok_buildSlice (t e : TypeId) (len k by' : Nat) (ez : List Value) (parts : Array (Nat × Operand)) (ht : E.tab t = some (.sl e k by' ez)) (hlen : len * k ≤ 2 ^ 24) (cs : List AV)
    (hcs : fillA (fun i => some (i * k, k)) (zerosA ez len) (parts.toList.map fun p => (p.1, ev E T p.2)) = some cs) (h : N (.sl k M.length 0 len (len * k)) (M ++ [.mem cs])) : OpOk E sz ⟨dst, .buildSlice t len parts, ty, pos, after, gd⟩ T M N :=
  .val fun c a w s => by
    have hT := E.ok t _ ht
    obtain ⟨i, z, hi, his, hib, hiz, hzc⟩ := hT.run_elem
    have hk0 : 0 < k := hT.2.2.2.1
    have hzs : z.cells.size = k := by rw [← Array.length_toList, hzc]; exact hT.2.2.1
    obtain ⟨hpl, hpp⟩ := parts_R s parts
    have hzl : ∀ n, (zerosA ez n).length = n * k := by
      intro n
      have : (ez.map ofV).length = k := by rw [List.length_map]; exact hT.2.2.1
      simp [zerosA, List.length_flatten, hT.2.2.1]
    have hbase : Rl c M w.heap (zerosA ez len) ((Array.range (len * k)).map (fun q => (if len * k = 0 then #[] else z.cells)[q % (if len * k = 0 then #[] else z.cells).size]!)).toList := by
      refine ⟨by rw [hzl]; simp, fun q b hq => ?_⟩
      have hlt := (List.getElem?_eq_some_iff.1 hq).1
      rw [hzl] at hlt
      have hne : len * k ≠ 0 := by omega
      have hqm : q % k < k := Nat.mod_lt _ hk0
      refine ⟨(if len * k = 0 then #[] else z.cells)[q % (if len * k = 0 then #[] else z.cells).size]!, by simp [hlt], ?_⟩
      rw [if_neg hne, hzs]
      have hz1 : z.cells[q % k]! = ez.getD (q % k) undef := by
        have hlt' : q % k < z.cells.size := by omega
        rw [getElem!_pos z.cells _ hlt', ← Array.getElem_toList, List.getD_eq_getElem?_getD]
        simp only [hzc]
        rw [List.getElem?_eq_getElem (by rw [hT.2.2.1]; exact hqm)]; rfl
      have hb : b = ofV (ez.getD (q % k) undef) := by
        have key : ∀ (n q : Nat), q < n * k → (zerosA ez n)[q]? = some (ofV (ez.getD (q % k) undef)) := by
          intro n
          induction n with
          | zero => intro q hq; simp at hq
          | succ n ih =>
            intro q hq
            have e : zerosA ez (n + 1) = ez.map ofV ++ zerosA ez n := by simp [zerosA, List.replicate_succ]
            rw [e]
            rcases Nat.lt_or_ge q k with h1 | h1
            · rw [List.getElem?_append_left (by rw [List.length_map, hT.2.2.1]; exact h1), List.getElem?_map, Nat.mod_eq_of_lt h1, List.getD_eq_getElem?_getD, List.getElem?_eq_getElem (by rw [hT.2.2.1]; exact h1)]; rfl
            · rw [List.getElem?_append_right (by rw [List.length_map, hT.2.2.1]; exact h1), List.length_map, hT.2.2.1, ih (q - k) (by rw [Nat.add_mul] at hq; omega), Nat.mod_eq_sub_mod h1]
        rw [key len q hlt] at hq
        exact (Option.some.inj hq).symm
      rw [hz1, hb]
      exact ofV_R ..
    obtain ⟨out, hout, hR⟩ := fill_R hpl hpp hbase hcs
    have hA := s.sim.sim.alloc cs out e (by rw [hR.1]; simp) (fun j b hj => by obtain ⟨u, hu, hr⟩ := hR.2 j b hj; exact ⟨u, by simpa using hu, hr⟩)
    have hlenle : len ≤ maxLen := by
      have : len ≤ len * k := Nat.le_mul_of_pos_right _ hk0
      simp only [maxLen]; omega
    have hcl : cs.length = len * k := by
      have hfl : ∀ (parts : List (Nat × AV)) (cells r : List AV), fillA (fun i => some (i * k, k)) cells parts = some r → r.length = cells.length := by
        intro parts
        induction parts with
        | nil => intro cells r hf; injection hf with hf; subst hf; rfl
        | cons p rest ih =>
          intro cells r hf
          simp only [fillA] at hf
          split at hf
          · rename_i hc
            rw [ih _ _ hf, putA'_length (by rw [hc.2.1]; exact hc.2.2)]
          · cases hf
      rw [hfl _ _ _ hcs, hzl]
    have hos : out.size = len * k := by rw [← hcl, hR.1]; simp
    refine ⟨.slice (some ⟨w.heap.size, 0, none⟩) len len, w.alloc (.cells out e), _, _, _, ?_, h, hA.1, ⟨rfl, rfl, rfl, by simp⟩, s.sim.mk' hA.1 hA.2, ?_⟩
    · have hz2 : (zeroValue e).run E.P w = .ok z w := by simp [zeroValue, typeInfo, hi, hiz]
      by_cases h0 : len * k = 0
      · rw [if_pos h0] at hout
        simp [execOp, Instr.buildSlice, underlying, hT.1.1, sizeOf, typeInfo, hi, his, show ¬ (2 ^ 24 < len * k) from by omega, h0, newRow]
        simp [h0] at hout
        simp [hout]
      · rw [if_neg h0] at hout
        simp [execOp, Instr.buildSlice, underlying, hT.1.1, sizeOf, typeInfo, hi, his, show ¬ (16777216 < len * k) from by omega, h0, newRow, hz2]
        simp at hout
        simp [hout]
    · refine .sl _ _ _ _ _ _ ⟨.mem cs, by simp, (fun h => by cases h), fun cs2 e2 => by injection e2 with e2; subst e2; omega⟩ rfl fun _ => ⟨by omega, len, ?_, Nat.le_refl _, hlenle, ?_, by omega⟩
      · show _ = Value.slice (some ⟨upd c.σ M.length w.heap.size M.length, 0, none⟩) len len
        rw [upd_same]
      · show 0 + len * k ≤ upd c.cap M.length out.size M.length
        rw [upd_same, hos]; omega

/-- A struct literal. -/
def placesA (E : Env) (fs : List (Nat × TypeId)) : List (Nat × Nat) := fs.map fun p => (p.1, match E.tab p.2 with | some d => d.size | none => 0)
theorem run_places {E : Env} {w : World} : ∀ (l : List Field), (∀ f ∈ l, (E.tab f.type).isSome = true) →
    (l.mapM (m := Sem) fun f => Prod.mk f.offset <$> sizeOf f.type).run E.P w = .ok (placesA E (l.map fun f => (f.offset, f.type))) w
  | [], _ => rfl
  | f :: l, h => by
    have ih := run_places (w := w) l fun g hg => h g (List.mem_cons_of_mem _ hg)
    obtain ⟨d, hd⟩ := Option.isSome_iff_exists.1 (h f (List.mem_cons_self ..))
    have hT := E.ok _ _ hd
    rw [List.mapM_cons]
    simp only [Sem.run_bind, Sem.run_map, hT.run_sizeOf w, Sem.run_pure, Result.andThen_ok, ih, placesA, List.map_cons, hd]
theorem ok_build (t : TypeId) (fs : List (Nat × TypeId)) (size : Nat) (z : List Value) (parts : Array (Nat × Operand)) (ht : E.tab t = some (.st fs size z)) (hfs : fs.all (fun p => (E.tab p.2).isSome) = true) (cs : List AV)
    (hcs : fillA (fun i => (placesA E fs)[i]?) (z.map ofV) (parts.toList.map fun p => (p.1, ev E T p.2)) = some cs) (h : N (.agg cs) M) : OpOk E sz ⟨dst, .build t parts, ty, pos, after, gd⟩ T M N :=
  .pure _ h fun c a w s => by
    have hT := E.ok t _ ht
    obtain ⟨hpl, hpp⟩ := parts_R s parts
    have hz : (zeroValue t).run E.P w = .ok (.agg z.toArray) w := hT.run_zeroValue w
    obtain ⟨d0, hd0, hd⟩ := Option.map_eq_some_iff.1 hT.1.1
    have hbase : Rl c M w.heap (z.map ofV) z.toArray.toList := by simpa using ofVs_at c M w.heap z
    obtain ⟨out, hout, hR⟩ := fill_R (place := fun i => (placesA E fs)[i]?) hpl hpp hbase hcs
    cases d0 with
    | struct fields =>
      simp only [Option.some.injEq] at hd
      have hp := run_places (E := E) (w := w) fields.toList (fun f hf => by
        have := List.all_eq_true.1 hfs (f.offset, f.type) (by rw [← hd]; exact List.mem_map.2 ⟨f, hf, rfl⟩)
        exact this)
      rw [hd] at hp
      refine ⟨.agg out, ?_, ?_⟩
      · simp only [execOp, Instr.build, Sem.run_bind, hz, Result.andThen_ok, underlying, hd0]
        simp [hd0, Array.mapM_eq_mapM_toList, hp, Value.cells]
        simp at hout
        simp [hout]
      · have := R.agg' hR
        simpa using this
    | _ => simp at hd

/-- Is a slice nil? -/
theorem run_equalIn_nil {P : Program} (w : World) (d : Nat) (t e : TypeId) (A : Option Addr) (n c : Nat) (h : P.underlying t = some (.slice e)) : (Op.equalIn (d + 1) t (.slice A n c) (.slice none 0 0)).run P w = .ok A.isNone w := by
  cases A <;> simp [Op.equalIn, run_underlying h]
theorem run_eqNil {P : Program} (w : World) (t e : TypeId) (A : Option Addr) (n c : Nat) (h : P.underlying t = some (.slice e)) :
    (binOp .eql t (.slice A n c) (.slice none 0 0)).run P w = .ok (.bool A.isNone) w ∧ (binOp .neq t (.slice A n c) (.slice none 0 0)).run P w = .ok (.bool (!A.isNone)) w := by
  refine ⟨?_, ?_⟩
  · simp [binOp, Op.equal, Op.maxDepth, run_equalIn_nil w 9999 t e A n c h]
  · simp [binOp, Op.equal, Op.maxDepth, run_equalIn_nil w 9999 t e A n c h]
def nilA (M : List AO) (x : AV) (K : Bool → Prop) : Prop := match x with
  | .nils => K true
  | .fz _ [] => K true ∧ K false
  | .fz _ (_ :: _) => K false
  | .sl _ o _ _ g => (match M[o]? with | some (.mem cs) => cs.length = g | _ => False) ∧ K false
  | _ => False
theorem nilA_R {c : Ctx} {M : List AO} {h : Array Obj} {x : AV} {v : Value} (r : R c M h x v) {K : Bool → Prop} (hx : nilA M x K) : ∃ A n cp, v = .slice A n cp ∧ K A.isNone := by
  unfold nilA at hx
  split at hx
  · cases r; exact ⟨none, 0, 0, rfl, hx⟩
  · cases r with
    | fz0 _ A cap =>
      refine ⟨A, 0, cap, rfl, ?_⟩
      cases A
      · exact hx.1
      · exact hx.2
    | fz _ _ B off cap f cur ty fr hp hb hl hk hf hr => exact ⟨_, _, _, rfl, hx.2⟩
  · cases r with
    | fz _ _ B off cap f cur ty fr hp hb hl hk hf hr => exact ⟨_, _, _, rfl, hx⟩
  · rename_i k o off len g
    obtain ⟨hc, hx⟩ := hx
    cases r with
    | sl _ _ _ _ _ _ hk h1 hv =>
      have : Cur M o g := by
        split at hc
        · rename_i cs ho; exact ⟨cs, ho, hc⟩
        · exact hc.elim
      obtain ⟨_, cap, rfl, _⟩ := hv this
      exact ⟨_, _, _, rfl, hx⟩
  · exact hx.elim
theorem ok_eqNil (t yt e : TypeId) (x y : Operand) (k by' : Nat) (ez : List Value) (ht : E.tab t = some (.sl e k by' ez)) (hy : ev E T y = .nils) (h : nilA M (ev E T x) fun b => N (.bool b) M) : OpOk E sz ⟨dst, .binOp .eql t x y yt, ty, pos, after, gd⟩ T M N :=
  .val fun c a w s => by
    obtain ⟨A, n, cp, hv, hN⟩ := nilA_R (ev_R s x) h
    have hI := ev_R s y
    rw [hy] at hI
    generalize hv2 : a.eval y = v2 at hI
    cases hI
    have hu := (E.ok t _ ht).1.1
    refine ⟨.bool A.isNone, w, .bool A.isNone, M, c, ?_, hN, .refl .., .refl _, s.sim, .bool _⟩
    simp [execOp, hv, hv2, eqGuard, (run_eqNil w t e A n cp hu).1]
theorem ok_neNil (t yt e : TypeId) (x y : Operand) (k by' : Nat) (ez : List Value) (ht : E.tab t = some (.sl e k by' ez)) (hy : ev E T y = .nils) (h : nilA M (ev E T x) fun b => N (.bool (!b)) M) : OpOk E sz ⟨dst, .binOp .neq t x y yt, ty, pos, after, gd⟩ T M N :=
  .val fun c a w s => by
    obtain ⟨A, n, cp, hv, hN⟩ := nilA_R (ev_R s x) h
    have hI := ev_R s y
    rw [hy] at hI
    generalize hv2 : a.eval y = v2 at hI
    cases hI
    have hu := (E.ok t _ ht).1.1
    refine ⟨.bool (!A.isNone), w, .bool (!A.isNone), M, c, ?_, hN, .refl .., .refl _, s.sim, .bool _⟩
    have e2 := (run_eqNil w t e A n cp hu).2
    simp [execOp, hv, hv2, eqGuard, e2]

/-- A cut of a row of the call's own. -/
theorem ok_slicel (t : TypeId) (x : Operand) (lo hi : Option Operand) (k o off len g : Nat) (e : TypeId) (by' : Nat) (ez : List Value) (ht : E.tab t = some (.sl e k by' ez)) (hx : ev E T x = .sl k o off len g) (cs : List AV) (ho : M[o]? = some (.mem cs)) (hg : cs.length = g)
    (l h : Int) (hlo : bdA E T lo 0 = some l) (hhi : bdA E T hi len = some h) (h0 : 0 ≤ l) (h1 : l ≤ h) (h2 : off + h.toNat * k ≤ g)
    (hN : if off + l.toNat * k < g then N (.sl k o (off + l.toNat * k) (h.toNat - l.toNat) g) M else N (.fz k []) M) : OpOk E sz ⟨dst, .slice t x lo hi none, ty, pos, after, gd⟩ T M N :=
  .val fun c a w s => by
    have hR := ev_R s x
    rw [hx] at hR
    generalize hv : a.eval x = v at hR
    have hT := E.ok t _ ht
    have hk0 : 0 < k := hT.2.2.2.1
    obtain ⟨i, z, hi', his, hib, hiz, hzc⟩ := hT.run_elem
    cases hR with
    | sl _ _ _ _ _ _ hkn h1' hval =>
      obtain ⟨hle, cap, rfl, hlc, hcm, hcc, hcg⟩ := hval ⟨cs, ho, hg⟩
      have hhc : h.toNat ≤ cap := by
        rcases Nat.lt_or_ge cap h.toNat with hlt | hge
        · have := Nat.mul_lt_mul_of_pos_right hlt hk0; omega
        · exact hge
      have hb := run_bounds (P := E.P) (w := w) true len cap (bdA_R s hlo) (bdA_R s hhi) h0 h1 (by omega)
      have hrun : ∀ r, r = Value.slice (if cap = l.toNat then some ⟨c.σ o, off, none⟩ else (some ⟨c.σ o, off, none⟩ : Option Addr).map (·.add (l.toNat * i.size))) (h.toNat - l.toNat) (cap - l.toNat) → (execOp a.eval ⟨dst, .slice t x lo hi none, ty, pos, after, gd⟩).run E.P w = .ok (.value r) w := by
        intro r hr
        subst hr
        simp [execOp, Instr.sliceAt, Instr.slice, underlying, hT.1.1, hv, hb, sizeOf, typeInfo, hi']
      split at hN
      · rename_i hlt
        have hlcap : l.toNat < cap := by
          rcases Nat.lt_or_ge l.toNat cap with h3 | h3
          · exact h3
          · have := Nat.mul_le_mul_right k h3; omega
        refine ⟨_, w, _, M, c, hrun _ rfl, hN, .refl .., .refl _, s.sim, ?_⟩
        rw [if_neg (by omega)]
        simp only [Option.map_some, add_plain, his]
        have e1 : (h.toNat - l.toNat) * k = h.toNat * k - l.toNat * k := Nat.sub_mul ..
        have e2 : (cap - l.toNat) * k = cap * k - l.toNat * k := Nat.sub_mul ..
        have e3 : l.toNat * k ≤ h.toNat * k := Nat.mul_le_mul_right _ (by omega)
        have e4 : l.toNat * k ≤ cap * k := Nat.mul_le_mul_right _ (by omega)
        exact .sl _ _ _ _ _ _ hkn rfl fun _ => ⟨by omega, cap - l.toNat, rfl, by omega, by omega, by omega, by omega⟩
      · rename_i hge
        have : l.toNat * k ≤ h.toNat * k := Nat.mul_le_mul_right _ (by omega)
        have hlh : h.toNat = l.toNat := by
          rcases Nat.lt_or_ge l.toNat h.toNat with h3 | h3
          · have := Nat.mul_lt_mul_of_pos_right h3 hk0; omega
          · omega
        refine ⟨_, w, _, M, c, hrun _ rfl, hN, .refl .., .refl _, s.sim, ?_⟩
        rw [hlh, Nat.sub_self]
        exact .fz0 k _ _
/-- A cut with three bounds: only that it can be done. -/
theorem run_bounds3 {P : Program} {w : World} (len cap : Nat) {k1 k2 k3 : IntKind} {l h m : Int} (h0 : 0 ≤ l) (h1 : l ≤ h) (h2 : h ≤ m) (h3 : m ≤ cap) :
    (Instr.sliceBounds true len cap (some (.int k1 l)) (some (.int k2 h)) (some (.int k3 m))).run P w = .ok (l.toNat, h.toNat, m.toNat) w := by
  have hm : (m.toNat : Int) = m := by omega
  have hh : (h.toNat : Int) = h := by omega
  simp [Instr.sliceBounds, Instr.sliceBound, asIntOf, show 0 ≤ m from by omega, h3, show 0 ≤ h from by omega, hm, h2, h0, hh, h1]
theorem ok_slice3 (t : TypeId) (x lo hi mx : Operand) (k o off len g : Nat) (e : TypeId) (by' : Nat) (ez : List Value) (ht : E.tab t = some (.sl e k by' ez)) (hx : ev E T x = .sl k o off len g) (cs : List AV) (ho : M[o]? = some (.mem cs)) (hg : cs.length = g)
    (k1 k2 k3 : IntKind) (l h m : Int) (hlo : ev E T lo = .int k1 l) (hhi : ev E T hi = .int k2 h) (hmx : ev E T mx = .int k3 m) (h0 : 0 ≤ l) (h1 : l ≤ h) (h2 : h ≤ m) (h3 : off + m.toNat * k ≤ g)
    (hN : N .any M) : OpOk E sz ⟨dst, .slice t x (some lo) (some hi) (some mx), ty, pos, after, gd⟩ T M N :=
  .val fun c a w s => by
    have hR := ev_R s x
    have hL := ev_R s lo
    have hH := ev_R s hi
    have hX := ev_R s mx
    rw [hx] at hR
    rw [hlo] at hL
    rw [hhi] at hH
    rw [hmx] at hX
    generalize hv : a.eval x = v at hR
    generalize hv1 : a.eval lo = v1 at hL
    generalize hv2 : a.eval hi = v2 at hH
    generalize hv3 : a.eval mx = v3 at hX
    cases hL
    cases hH
    cases hX
    have hT := E.ok t _ ht
    have hk0 : 0 < k := hT.2.2.2.1
    obtain ⟨i, z, hi', his, hib, hiz, hzc⟩ := hT.run_elem
    cases hR with
    | sl _ _ _ _ _ _ hkn h1' hval =>
      obtain ⟨hle, cap, rfl, hlc, hcm, hcc, hcg⟩ := hval ⟨cs, ho, hg⟩
      have hhc : m.toNat ≤ cap := by
        rcases Nat.lt_or_ge cap m.toNat with hlt | hge
        · have := Nat.mul_lt_mul_of_pos_right hlt hk0; omega
        · exact hge
      have hb := run_bounds3 (P := E.P) (w := w) len cap (k1 := k1) (k2 := k2) (k3 := k3) h0 h1 h2 (by omega)
      refine ⟨.slice (if m.toNat = l.toNat then some ⟨c.σ o, off, none⟩ else (some ⟨c.σ o, off, none⟩ : Option Addr).map (·.add (l.toNat * i.size))) (h.toNat - l.toNat) (m.toNat - l.toNat), w, _, M, c, ?_, hN, .refl .., .refl _, s.sim, .any _⟩
      simp [execOp, Instr.sliceAt, Instr.slice, underlying, hT.1.1, hv, hv1, hv2, hv3, hb, sizeOf, typeInfo, hi']

/-- Zero values, one after the other. -/
theorem zerosA_length {ez : List Value} {k : Nat} (hk : ez.length = k) : ∀ n, (zerosA ez n).length = n * k := by
  intro n; simp [zerosA, List.length_flatten, hk]
theorem zeros_R {c : Ctx} {M : List AO} {h : Array Obj} {ez : List Value} {k : Nat} {z : Array Value} (hz : z.toList = ez) (hk : ez.length = k) (hk0 : 0 < k) (n : Nat) : Rl c M h (zerosA ez n) ((Array.range (n * k)).map (z[· % z.size]!)).toList := by
  have hzs : z.size = k := by rw [← Array.length_toList, hz]; exact hk
  refine ⟨by rw [zerosA_length hk]; simp, fun q b hq => ?_⟩
  have hlt := (List.getElem?_eq_some_iff.1 hq).1
  rw [zerosA_length hk] at hlt
  have hqm : q % k < k := Nat.mod_lt _ hk0
  refine ⟨z[q % z.size]!, by simp [hlt], ?_⟩
  rw [hzs]
  have hz1 : z[q % k]! = ez.getD (q % k) undef := by
    have hlt' : q % k < z.size := by omega
    rw [getElem!_pos z _ hlt', ← Array.getElem_toList, List.getD_eq_getElem?_getD]
    simp only [hz]
    rw [List.getElem?_eq_getElem (by omega)]; rfl
  have key : ∀ (n q : Nat), q < n * k → (zerosA ez n)[q]? = some (ofV (ez.getD (q % k) undef)) := by
    intro n
    induction n with
    | zero => intro q hq; simp at hq
    | succ n ih =>
      intro q hq
      have e : zerosA ez (n + 1) = ez.map ofV ++ zerosA ez n := by simp [zerosA, List.replicate_succ]
      rw [e]
      rcases Nat.lt_or_ge q k with h1 | h1
      · rw [List.getElem?_append_left (by rw [List.length_map, hk]; exact h1), List.getElem?_map, Nat.mod_eq_of_lt h1, List.getD_eq_getElem?_getD, List.getElem?_eq_getElem (by omega)]; rfl
      · rw [List.getElem?_append_right (by rw [List.length_map, hk]; exact h1), List.length_map, hk, ih (q - k) (by rw [Nat.add_mul] at hq; omega), Nat.mod_eq_sub_mod h1]
  rw [key n q hlt] at hq
  rw [hz1, ← Option.some.inj hq]
  exact ofV_R ..
theorem zerosA_one {ez : List Value} (h : ez.all (fun z => z.oneCell') = true) : True := trivial

theorem ok_makeSlice (t e : TypeId) (x y : Operand) (k by' : Nat) (ez : List Value) (ht : E.tab t = some (.sl e k by' ez)) (kl kc : IntKind) (l c0 : Nat) (hx : ev E T x = .int kl l) (hy : ev E T y = .int kc c0) (hlc : l ≤ c0) (hb : c0 * by' ≤ 281474976710656)
    (h : N (.sl k M.length 0 l (c0 * k)) (M ++ [.mem (zerosA ez c0)])) : OpOk E sz ⟨dst, .makeSlice t x y, ty, pos, after, gd⟩ T M N :=
  .val fun c a w s => by
    have hR := ev_R s x
    have hI := ev_R s y
    rw [hx] at hR
    rw [hy] at hI
    generalize hv : a.eval x = v at hR
    generalize hv2 : a.eval y = v2 at hI
    cases hI
    cases hR
    have hT := E.ok t _ ht
    obtain ⟨i, z, hi', his, hib, hiz, hzc⟩ := hT.run_elem
    have hk0 : 0 < k := hT.2.2.2.1
    have hby0 : 0 < by' := hT.2.2.2.2.1
    have hc0 : c0 ≤ 281474976710656 := Nat.le_trans (Nat.le_mul_of_pos_right _ hby0) hb
    have hbz : (i.bytes : Int) * (c0 : Int) ≤ 281474976710656 := by
      have h' : ((by' * c0 : Nat) : Int) ≤ 281474976710656 := by rw [Nat.mul_comm]; omega
      rw [Int.natCast_mul] at h'
      rw [hib]; exact h'
    have hrun := run_make (P := E.P) w t e i z hT.1.1 hi' hiz kl kc (l : Int) (c0 : Int) (by omega) (by omega) hbz (by omega)
    simp only [Int.toNat_natCast, his] at hrun
    have hZ := zeros_R (c := c) (M := M) (h := w.heap) (z := z.cells) hzc hT.2.2.1 hk0 c0
    have hms : (madeCells z.cells (c0 * k)).size = c0 * k := size_madeCells _ _
    have hA := s.sim.sim.alloc (zerosA ez c0) (madeCells z.cells (c0 * k)) e (by rw [zerosA_length hT.2.2.1, hms]; exact Nat.le_refl _) (fun j b hj => by obtain ⟨u, hu, hr⟩ := hZ.2 j b hj; exact ⟨u, by rw [← Array.getElem?_toList]; exact hu, hr⟩)
    refine ⟨.slice (some ⟨w.heap.size, 0, none⟩) l c0, w.alloc (.cells (madeCells z.cells (c0 * k)) e), _, _, _, ?_, h, hA.1, ⟨rfl, rfl, rfl, by simp⟩, s.sim.mk' hA.1 hA.2, ?_⟩
    · simp [execOp, hv, hv2, hrun]
    · refine .sl _ _ _ _ _ _ ⟨.mem (zerosA ez c0), by simp, (fun h => by cases h), fun cs2 e2 => by injection e2 with e2; subst e2; rw [zerosA_length hT.2.2.1]; exact Nat.le_refl _⟩ rfl fun _ => ⟨by have := Nat.mul_le_mul_right k hlc; omega, c0, ?_, hlc, by simp only [maxLen]; omega, ?_, by omega⟩
      · show _ = Value.slice (some ⟨upd c.σ M.length w.heap.size M.length, 0, none⟩) l c0
        rw [upd_same]
      · show 0 + c0 * k ≤ upd c.cap M.length (madeCells z.cells (c0 * k)).size M.length
        rw [upd_same, hms]; omega
/-- clear of a stretch of a row. -/
theorem ok_clear (x : Operand) (t e : TypeId) (k by' : Nat) (ez : List Value) (ht : E.tab t = some (.sl e k by' ez)) (o off len g : Nat) (hx : ev E T x = .sl k o off len g) (cs : List AV) (ho : M[o]? = some (.mem cs)) (hg : cs.length = g) (hfit : off + len * k ≤ g)
    (h : N (.tup []) (M.set o (.mem (putA' cs off (zerosA ez len))))) : OpOk E sz ⟨dst, .call ⟨.builtin .clear, #[x], #[t]⟩, ty, pos, after, gd⟩ T M N :=
  .val fun c a w s => by
    have hR := ev_R s x
    rw [hx] at hR
    generalize hv : a.eval x = v at hR
    have hT := E.ok t _ ht
    obtain ⟨i, z, hi', his, hib, hiz, hzc⟩ := hT.run_elem
    have hk0 : 0 < k := hT.2.2.2.1
    have hzs : z.cells.size = k := by rw [← Array.length_toList, hzc]; exact hT.2.2.1
    have hz2 : (zeroValue e).run E.P w = .ok z w := by simp [zeroValue, typeInfo, hi', hiz]
    have hZ := zeros_R (c := c) (M := M) (h := w.heap) (z := z.cells) hzc hT.2.2.1 hk0 len
    have hzl := zerosA_length hT.2.2.1 len
    cases hR with
    | sl _ _ _ _ _ _ hkn h1' hval =>
      obtain ⟨hle, cap, rfl, hlc, hcm, hcc, hcg⟩ := hval ⟨cs, ho, hg⟩
      obtain ⟨cur, ty', hbk, hs, hl, hc⟩ := s.sim.sim.live o cs ho
      have hcells : (Builtin.zeroCells z.cells len).toList = ((Array.range (len * k)).map (z.cells[· % z.cells.size]!)).toList := by
        simp only [Builtin.zeroCells, hzs]
      have hvl : ((Array.range (len * k)).map (z.cells[· % z.cells.size]!)).toList.length = len * k := by simp
      have hone : ∀ u ∈ ((Array.range (len * k)).map (z.cells[· % z.cells.size]!)).toList, u.oneCell' = true := by
        intro u hu
        simp only [Array.toList_map, List.mem_map] at hu
        obtain ⟨q, hq, rfl⟩ := hu
        have hqm : q % z.cells.size < z.cells.size := Nat.mod_lt _ (by omega)
        rw [getElem!_pos z.cells _ hqm]
        have : z.cells[q % z.cells.size] ∈ ez := by rw [← hzc]; simp
        exact List.all_eq_true.1 hT.2.2.2.2.2 _ this
      obtain ⟨w', hrun, hw, hsz, hb', ho'⟩ := run_storeCells (P := E.P) (c.σ o) ty' _ off 0 cur w hbk hone (by rw [hvl]; omega)
      rw [Nat.add_zero] at hb'
      have hfit2 : off + ((Array.range (len * k)).map (z.cells[· % z.cells.size]!)).toList.length ≤ cur.size := by rw [hvl]; omega
      have hup := s.sim.sim.update o cs (putA' cs off (zerosA ez len)) (putCells cur off _) ty' ho (by rw [putA'_length (by rw [hzl, hg]; exact hfit)]; exact Nat.le_refl _) (by rw [putCells_size hfit2, hs]) (by rw [putCells_size hfit2, putA'_length (by rw [hzl, hg]; exact hfit)]; exact hl)
        (fun j b hj => by
          rw [putA'_get (by rw [hzl, hg]; exact hfit)] at hj
          rw [putCells_get hfit2]
          split at hj
          · rename_i c1; rw [if_pos c1]; exact hc j b hj
          · rename_i c1; rw [if_neg c1]
            split at hj
            · rename_i c2; rw [if_pos (by rw [hvl]; rw [hzl] at c2; exact c2)]; exact hZ.2 _ b hj
            · rename_i c2; rw [if_neg (by rw [hvl]; rw [hzl] at c2; exact c2)]; exact hc j b hj) w'.heap hsz hb' ho'
      by_cases h0 : len = 0
      · subst h0
        have e1 : putA' cs off (zerosA ez 0) = cs := by simp [putA', zerosA]
        have e2 : M.set o (.mem cs) = M := by
          obtain ⟨hlt, he⟩ := List.getElem?_eq_some_iff.1 ho
          rw [← he]; exact List.set_getElem_self hlt
        rw [e1, e2] at h
        exact ⟨.tuple #[], w, _, M, c, by simp [execOp, resolve, invoke, builtin, Builtin.clear_, underlying, hT.1.1, hv], h, .refl .., .refl _, s.sim, R.tup' (.nil ..)⟩
      · refine ⟨.tuple #[], w', _, _, c, ?_, h, hup.1, hw, s.sim.mk' hup.1 hup.2, R.tup' (.nil ..)⟩
        rw [← hcells] at hrun
        simp [execOp, resolve, invoke, builtin, Builtin.clear_, underlying, hT.1.1, hv, h0, hz2, hrun]

/-- append that has room within what is known of the row. -/
theorem ok_appendIn (x y : Operand) (t e : TypeId) (k by' : Nat) (ez : List Value) (ht : E.tab t = some (.sl e k by' ez)) (o off len g : Nat) (hx : ev E T x = .sl k o off len g) (cs : List AV) (ho : M[o]? = some (.mem cs)) (hg : cs.length = g)
    (m : Nat) (ys : List AV) (hy : rdA M (ev E T y) = some (m, ys)) (hm : ys.length = m * k) (h1 : ys.all AV.one = true) (hfit0 : off + (len + m) * k ≤ g) (h : N (.sl k o off (len + m) g) (M.set o (.mem (putA' cs (off + len * k) ys)))) :
    OpOk E sz ⟨dst, .call ⟨.builtin .append, #[x, y], #[t, t]⟩, ty, pos, after, gd⟩ T M N :=
  .val fun c a w s => by
    have hT := E.ok t _ ht
    obtain ⟨i, z, hi, his, hib, hiz, hzc⟩ := hT.run_elem
    have hk0 : 0 < k := hT.2.2.2.1
    have hR := ev_R s x
    rw [hx] at hR
    generalize hv : a.eval x = v at hR
    obtain ⟨A, cap2, hv2, hA0, hA1⟩ := rdA_R s.sim.sim (ev_R s y) hy
    have hlm : (len + m) * k = len * k + m * k := Nat.add_mul ..
    cases hR with
    | sl _ _ _ _ _ _ hkn h1' hval =>
      obtain ⟨hle, cap, rfl, hlc, hcm, hcc, hcg⟩ := hval ⟨cs, ho, hg⟩
      obtain ⟨cur, ty', hbk, hs, hl, hc⟩ := s.sim.sim.live o cs ho
      have hroom : len + m ≤ cap := by
        rcases Nat.lt_or_ge cap (len + m) with hlt | hge
        · have := Nat.mul_lt_mul_of_pos_right hlt hk0; omega
        · exact hge
      have hnew : ∃ vs : List Value, Rl c M w.heap ys vs ∧ (Builtin.firstCells k m (.slice A m cap2)).run E.P w = .ok vs.toArray w := by
        cases A with
        | none =>
          obtain ⟨h0, h2⟩ := hA0 rfl
          subst h0; subst h2
          exact ⟨[], .nil .., by simp [Builtin.firstCells]⟩
        | some ad =>
          rcases hA1 ad rfl with ⟨h0, h2⟩ | ⟨hsp, cur2, ty2, fr2, hb2, hys⟩
          · subst h0; subst h2
            exact ⟨[], .nil .., by simp [Builtin.firstCells, loadCells, loadCellsFrom]⟩
          · obtain ⟨vs, hvs, hcell⟩ := vals_of w rfl hsp hb2 hys
            exact ⟨vs, hvs, run_firstCells_some w k m ad m cap2 vs (by rw [← hvs.1, hm]) hcell⟩
      obtain ⟨vs, hvs, hfirst⟩ := hnew
      have hone := hvs.ones h1
      have hvl : vs.length = m * k := by rw [← hvs.1, hm]
      have hfit : off + len * k + vs.length ≤ cur.size := by rw [hvl]; omega
      obtain ⟨w', hrun, hw, hsz, hb', ho'⟩ := run_storeCells (P := E.P) (c.σ o) ty' vs (off + len * k) 0 cur w hbk hone (by simpa using hfit)
      rw [Nat.add_zero] at hb'
      have hfy : off + len * k + ys.length ≤ cs.length := by rw [hm, hg]; omega
      have hup := s.sim.sim.update o cs (putA' cs (off + len * k) ys) (putCells cur (off + len * k) vs) ty' ho (by rw [putA'_length hfy]; exact Nat.le_refl _) (by rw [putCells_size hfit, hs]) (by rw [putCells_size hfit, putA'_length hfy]; exact hl)
        (fun j b hj => by
          rw [putA'_get hfy] at hj
          rw [putCells_get hfit]
          split at hj
          · rename_i c1; rw [if_pos c1]; exact hc j b hj
          · rename_i c1; rw [if_neg c1]
            split at hj
            · rename_i c2; rw [if_pos (by rw [hvl, ← hm]; exact c2)]; exact hvs.2 _ b hj
            · rename_i c2; rw [if_neg (by rw [hvl, ← hm]; exact c2)]; exact hc j b hj) w'.heap hsz hb' ho'
      refine ⟨.slice (some ⟨c.σ o, off, none⟩) (len + m) cap, w', _, _, c, ?_, h, hup.1, hw, s.sim.mk' hup.1 hup.2, ?_⟩
      · have hst : (storeCells ((⟨c.σ o, off, none⟩ : Addr).add (len * i.size)) vs 0).run E.P w = .ok () w' := by
          rw [add_plain, his]; exact hrun
        simp [execOp, resolve, invoke, builtin, Builtin.append_, underlying, hT.1.1, hv, hv2, sizeOf, typeInfo, hi, Builtin.lenOf, hroom, his, hfirst]
        rw [his] at hst
        simp [hst]
      · refine .sl _ _ _ _ _ _ ?_ rfl fun _ => ⟨hfit0, cap, rfl, hroom, hcm, hcc, hcg⟩
        exact ⟨.mem (putA' cs (off + len * k) ys), by rw [List.getElem?_set_self (List.getElem?_eq_some_iff.1 ho).1], (fun h => by cases h), fun cs2 e2 => by injection e2 with e2; subst e2; rw [putA'_length hfy, hg]; exact Nat.le_refl _⟩

/-- Structs of numbers alone: when they are alike. -/
def eqI : List AV → List AV → Option Bool
  | [], [] => some true
  | .int k a :: xs, .int k' b :: ys => if k = k' then match eqI xs ys with
      | some r => some (decide (a = b) && r)
      | none => none
    else none
  | _, _ => none
theorem run_part {P : Program} {w : World} {t : TypeId} {k : IntKind} (hu : P.underlying t = some (.int k)) (cs : Array Value) (off : Nat) {v : Value} (hv : cs[off]? = some v) : (part t cs off).run P w = .ok v w := by
  simp [part, isAgg, underlying, hu, hv]
theorem run_eqInts {P : Program} {c : Ctx} {M : List AO} {w : World} (d : Nat) (xs ys : Array Value) : ∀ (fs : List Field) (j : Nat) (us bs : List AV) (r : Bool),
    fs.map (fun f => (f.name == "_", f.offset, isIntT (P.underlying f.type))) = (List.range' j fs.length).map (fun i => (false, i, true)) → us.length = fs.length → eqI us bs = some r →
    (∀ (i : Nat) (a : AV), us[i]? = some a → ∃ u, xs[j + i]? = some u ∧ R c M w.heap a u) → (∀ (i : Nat) (a : AV), bs[i]? = some a → ∃ u, ys[j + i]? = some u ∧ R c M w.heap a u) → (Op.eqFields (d + 1) xs ys fs).run P w = .ok r w
  | [], j, us, bs, r, hf, hl, he, hx, hy => by
    obtain rfl : us = [] := List.eq_nil_of_length_eq_zero hl
    cases bs with
    | nil => injection he with he; subst he; rfl
    | cons b bs => simp [eqI] at he
  | f :: fs, j, us, bs, r, hf, hl, he, hx, hy => by
    cases us with
    | nil => cases hl
    | cons a us =>
      cases bs with
      | nil => cases a <;> simp [eqI] at he
      | cons b bs =>
        cases a <;> cases b <;> try (simp [eqI] at he; done)
        rename_i k m k' n
        simp only [eqI] at he
        split at he
        · rename_i hk; subst hk
          split at he
          · rename_i r' hr'
            injection he with he
            simp only [List.length_cons, List.range'_succ, List.map_cons, List.cons.injEq, Prod.mk.injEq] at hf
            obtain ⟨⟨hn, ho, hu⟩, hrest⟩ := hf
            have hu' : ∃ kk, P.underlying f.type = some (.int kk) := by
              unfold isIntT at hu
              split at hu
              · rename_i kk hkk; exact ⟨kk, hkk⟩
              · cases hu
            obtain ⟨kk, hkk⟩ := hu'
            obtain ⟨u, hu1, hR1⟩ := hx 0 _ rfl
            obtain ⟨v, hv1, hR2⟩ := hy 0 _ rfl
            cases hR1
            cases hR2
            have hn' : f.name ≠ "_" := by simpa using hn
            have p1 := run_part (w := w) hkk xs f.offset (by rw [ho]; exact hu1)
            have p2 := run_part (w := w) hkk ys f.offset (by rw [ho]; exact hv1)
            have ih := run_eqInts d xs ys fs (j + 1) us bs r' hrest (by simpa using hl) hr' (fun i a hi => by have := hx (i + 1) a (by simpa using hi); rwa [show j + (i + 1) = j + 1 + i from by omega] at this) (fun i a hi => by have := hy (i + 1) a (by simpa using hi); rwa [show j + (i + 1) = j + 1 + i from by omega] at this)
            subst he
            simp only [Op.eqFields, Sem.run_bind, Sem.run_ite, hn', ne_eq, not_false_eq_true, if_true, p1, p2, Result.andThen_ok, run_equalIn_int w d f.type k kk m n hkk]
            by_cases hmn : m = n
            · simp [hmn, ih]
            · simp [hmn]
          · cases he
        · cases he
theorem eqst_spec {P : Program} {t : TypeId} {n : Nat} (h : EqSt P t n) : P.underlying t = some (.struct (P.fieldsOf t)) ∧ P.stoodInHeld t = false ∧ P.eqGuardType P.depth t = false ∧ (P.fieldsOf t).toList.length = n ∧
    (P.fieldsOf t).toList.map (fun f => (f.name == "_", f.offset, isIntT (P.underlying f.type))) = (List.range' 0 (P.fieldsOf t).toList.length).map (fun i => (false, i, true)) := by
  obtain ⟨h1, h2, h3, h4⟩ := h
  have hl : (P.fieldsOf t).toList.length = n := by have := congrArg List.length h4; simpa using this
  refine ⟨h1, h2, h3, hl, ?_⟩
  rw [h4, hl, List.range_eq_range']
theorem ok_eqSt (t yt : TypeId) (x y : Operand) (n : Nat) (ht : E.eqs t = some n) (us bs : List AV) (hx : ev E T x = .agg us) (hy : ev E T y = .agg bs) (hl : us.length = n) (r : Bool) (hr : eqI us bs = some r) (h : N (.bool r) M) : OpOk E sz ⟨dst, .binOp .eql t x y yt, ty, pos, after, gd⟩ T M N :=
  .pure _ h fun c a w s => by
    have hR := ev_R s x
    have hI := ev_R s y
    rw [hx] at hR
    rw [hy] at hI
    generalize hv : a.eval x = v at hR
    generalize hv2 : a.eval y = v2 at hI
    obtain ⟨h1, h2, h3, h4, h5⟩ := eqst_spec (E.eqok t n ht)
    cases hR with
    | agg _ arr fv hs hf hr1 =>
      cases hI with
      | agg _ arr2 fv2 hs2 hf2 hr2 =>
        have key := run_eqInts (P := E.P) (c := c) (M := M) (w := w) 9998 arr arr2 (E.P.fieldsOf t).toList 0 us bs r h5 (by rw [h4, hl]) hr
          (fun i b hi => ⟨fv i, by rw [Nat.zero_add]; exact hf i (List.getElem?_eq_some_iff.1 hi).1, hr1 i b hi⟩) (fun i b hi => ⟨fv2 i, by rw [Nat.zero_add]; exact hf2 i (List.getElem?_eq_some_iff.1 hi).1, hr2 i b hi⟩)
        refine ⟨.bool r, ?_, .bool _⟩
        have e1 := run_equalIn_agg (P := E.P) w 9999 t arr arr2 h1 h2
        have e2 := run_eql_struct (P := E.P) w t arr arr2
        rw [e1, key] at e2
        simp only [execOp, hv, hv2, Sem.run_bind, run_eqGuard_agg w .eql t x y arr arr2 h3, Result.andThen_ok, e2]
        rfl
end
end Go.Ax
