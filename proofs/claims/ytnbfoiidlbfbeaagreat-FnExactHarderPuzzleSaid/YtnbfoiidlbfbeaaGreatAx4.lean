/- More kinds of operations: addresses, slices, numbers, structs. -/
import Derived.Test.YtnbfoiidlbfbeaaGreatAx3
set_option linter.unusedVariables false
set_option linter.unusedSimpArgs false
namespace Go.Ax
open Go.RowKit (Below)
open Go.Proofs (Enters enters_of)

theorem flat_length {k : Nat} : ∀ {xs : List AV}, (∀ x ∈ xs, x.cells.length = k) → (flat xs).length = xs.length * k
  | [], _ => by simp [flat]
  | x :: xs, h => by
    have ih := flat_length (k := k) (xs := xs) (fun y hy => h y (by simp [hy]))
    have : (flat (x :: xs)).length = x.cells.length + (flat xs).length := by simp [flat]
    rw [this, ih, h x (by simp), List.length_cons, Nat.add_mul]; omega
theorem flat_get {k : Nat} : ∀ {xs : List AV} (i j : Nat) (x : AV), (∀ x ∈ xs, x.cells.length = k) → xs[i]? = some x → j < k → (flat xs)[i * k + j]? = x.cells[j]?
  | [], i, j, x, _, h, _ => by simp at h
  | y :: xs, 0, j, x, hk, h, hj => by
    simp at h; subst h
    have : flat (y :: xs) = y.cells ++ flat xs := by simp [flat]
    rw [this, Nat.zero_mul, Nat.zero_add, List.getElem?_append_left (by rw [hk y (by simp)]; exact hj)]
  | y :: xs, i + 1, j, x, hk, h, hj => by
    simp at h
    have ih := flat_get (k := k) (xs := xs) i j x (fun z hz => hk z (by simp [hz])) h hj
    have : flat (y :: xs) = y.cells ++ flat xs := by simp [flat]
    have hy := hk y (by simp)
    rw [this, List.getElem?_append_right (by rw [hy, Nat.add_mul]; omega), hy, ← ih]
    congr 1
    rw [Nat.add_mul]; omega

section
variable {E : Env} {sz : Nat} {T : Tm} {M : List AO} {N : AV → List AO → Prop} {dst : Option Tmp} {ty : TypeId} {pos : String} {after : Array Edge} {gd : Option (Nat × Bool)}

/-- Where field f of a struct type lies. -/
theorem TDok.field {P : Program} {t : TypeId} {fs : List (Nat × TypeId)} {size : Nat} {z : List Value} (h : TDok P t (.st fs size z)) {f off : Nat} {ft : TypeId} (hf : fs[f]? = some (off, ft)) :
    ∃ fields fd, P.underlying t = some (.struct fields) ∧ fields[f]? = some fd ∧ fd.offset = off ∧ fd.type = ft := by
  obtain ⟨u, hu, hp⟩ := Option.map_eq_some_iff.1 h.1.1
  cases u with
  | struct fields =>
    simp at hp
    subst hp
    rw [List.getElem?_map] at hf
    obtain ⟨fd, hfd, he⟩ := Option.map_eq_some_iff.1 hf
    simp only [Prod.mk.injEq] at he
    exact ⟨fields, fd, hu, by simpa using hfd, he.1, he.2⟩
  | _ => simp at hp

theorem ok_fieldAddr (t : TypeId) (x : Operand) (f o off g foff : Nat) (ft : TypeId) (fs : List (Nat × TypeId)) (size : Nat) (z : List Value) (d : TD) (ht : E.tab t = some (.st fs size z)) (hf : fs[f]? = some (foff, ft)) (hd : E.tab ft = some d) (hpos : 0 < d.size)
    (hx : ev E T x = .ptr o off g) (cs : List AV) (ho : M[o]? = some (.mem cs)) (hg : cs.length = g) (h : N (.ptr o (off + foff) g) M) : OpOk E sz ⟨dst, .fieldAddr t x f, ty, pos, after, gd⟩ T M N :=
  .pure _ h fun c a w s => by
    have hR := ev_R s x
    rw [hx] at hR
    generalize hv : a.eval x = v at hR
    cases hR with
    | ptr _ _ _ _ hk h1 hval =>
      have := hval ⟨cs, ho, hg⟩
      subst this
      obtain ⟨fields, fd, hu, hfd, e1, e2⟩ := (E.ok t _ ht).field hf
      refine ⟨.pointer (some ⟨c.σ o, off + foff, none⟩), ?_, .ptr _ _ _ _ hk rfl fun _ => rfl⟩
      have hz : d.size ≠ 0 := by omega
      simp [execOp, Instr.fieldAt, underlying, hu, hfd, Instr.sureAddr, hv, fieldPlace, e1, e2, (E.ok ft d hd).run_sizeOf, hz, add_plain]
theorem ok_fieldAddrf (t : TypeId) (x : Operand) (f foff : Nat) (ft : TypeId) (fs : List (Nat × TypeId)) (size : Nat) (z : List Value) (d : TD) (ht : E.tab t = some (.st fs size z)) (hf : fs[f]? = some (foff, ft)) (hd : E.tab ft = some d) (hpos : 0 < d.size)
    (cs : List AV) (hx : ev E T x = .fp cs) (h : N (.fp (cs.drop foff)) M) : OpOk E sz ⟨dst, .fieldAddr t x f, ty, pos, after, gd⟩ T M N :=
  .pure _ h fun c a w s => by
    have hR := ev_R s x
    rw [hx] at hR
    generalize hv : a.eval x = v at hR
    cases hR with
    | fp _ B off fv cur ty' fr hp hb hfv hr0 =>
      obtain ⟨fields, fd, hu, hfd, e1, e2⟩ := (E.ok t _ ht).field hf
      have hz : d.size ≠ 0 := by omega
      refine ⟨.pointer (some ⟨B, off + foff, none⟩), ?_, .fp _ _ _ (fun i => fv (foff + i)) cur ty' fr hp hb (fun i hi => ?_) (fun i b hi => ?_)⟩
      · simp [execOp, Instr.fieldAt, underlying, hu, hfd, Instr.sureAddr, hv, fieldPlace, e1, e2, (E.ok ft d hd).run_sizeOf, hz, add_plain]
      · rw [List.length_drop] at hi
        rw [Nat.add_assoc]; exact hfv _ (by omega)
      · rw [List.getElem?_drop] at hi; exact hr0 _ b hi

theorem ok_indexAddr (t : TypeId) (x y : Operand) (k o off len g : Nat) (e : TypeId) (by' : Nat) (ez : List Value) (ht : E.tab t = some (.sl e k by' ez)) (hx : ev E T x = .sl k o off len g) (ik : IntKind) (i : Int) (hy : ev E T y = .int ik i)
    (cs : List AV) (ho : M[o]? = some (.mem cs)) (hg : cs.length = g) (h0 : 0 ≤ i) (h1 : i < len) (h : N (.ptr o (off + i.toNat * k) g) M) : OpOk E sz ⟨dst, .indexAddr t x y, ty, pos, after, gd⟩ T M N :=
  .pure _ h fun c a w s => by
    have hR := ev_R s x
    have hI := ev_R s y
    rw [hx] at hR
    rw [hy] at hI
    generalize hv : a.eval x = v at hR
    generalize hv2 : a.eval y = v2 at hI
    cases hI
    cases hR with
    | sl _ _ _ _ _ _ hk h1' hval =>
      obtain ⟨hle, cap, rfl, _⟩ := hval ⟨cs, ho, hg⟩
      have hT := E.ok t _ ht
      refine ⟨.pointer (some ⟨c.σ o, off + i.toNat * k, none⟩), ?_, .ptr _ _ _ _ hk rfl fun _ => rfl⟩
      obtain ⟨j, hj, he⟩ := Option.map_eq_some_iff.1 hT.2.1
      simp only [Prod.mk.injEq] at he
      simp [execOp, Instr.indexAt, hv, hv2, asIntOf, underlying, hT.1.1, h0, h1, sizeOf, typeInfo, hj, he.1, add_plain]
theorem ok_indexAddrf (t : TypeId) (x y : Operand) (k : Nat) (xs : List AV) (e : TypeId) (by' : Nat) (ez : List Value) (ht : E.tab t = some (.sl e k by' ez)) (hx : ev E T x = .fz k xs) (ik : IntKind) (i : Int) (hy : ev E T y = .int ik i)
    (h0 : 0 ≤ i) (h1 : i < xs.length) (h : N (.fp (xs.getD i.toNat .any).cells) M) : OpOk E sz ⟨dst, .indexAddr t x y, ty, pos, after, gd⟩ T M N :=
  .pure _ h fun c a w s => by
    have hR := ev_R s x
    have hI := ev_R s y
    rw [hx] at hR
    rw [hy] at hI
    generalize hv : a.eval x = v at hR
    generalize hv2 : a.eval y = v2 at hI
    cases hI
    cases hR with
    | fz0 _ A cap => simp at h1; omega
    | fz _ _ B off cap fv cur ty' fr hp hb hl hk hf hr =>
      have hT := E.ok t _ ht
      obtain ⟨j, hj, he⟩ := Option.map_eq_some_iff.1 hT.2.1
      simp only [Prod.mk.injEq] at he
      have hlt : i.toNat < xs.length := by omega
      have hget : xs[i.toNat]? = some (xs.getD i.toNat .any) := by simp [List.getD_eq_getElem?_getD, List.getElem?_eq_getElem hlt]
      have hlen := hk _ (List.mem_of_getElem? hget)
      have hfl := flat_length hk
      have hfull : i.toNat * k + k ≤ (flat xs).length := by
        rw [hfl, show i.toNat * k + k = (i.toNat + 1) * k from by rw [Nat.add_mul]; omega]
        exact Nat.mul_le_mul_right _ hlt
      refine ⟨.pointer (some ⟨B, off + i.toNat * k, none⟩), ?_, .fp _ _ _ (fun q => fv (i.toNat * k + q)) cur ty' fr hp hb (fun q hq => ?_) (fun q b hq => ?_)⟩
      · simp [execOp, Instr.indexAt, hv, hv2, asIntOf, underlying, hT.1.1, h0, h1, sizeOf, typeInfo, hj, he.1, add_plain]
      · rw [hlen] at hq
        rw [Nat.add_assoc]; exact hf _ (by omega)
      · have hq' : q < k := by have := (List.getElem?_eq_some_iff.1 hq).1; omega
        exact hr _ b (by rw [flat_get i.toNat q _ hk hget hq']; exact hq)

theorem ok_nilCheck (x : Operand) (h : N (ev E T x) M) (hx : (match ev E T x with | .ptr o _ g => (match M[o]? with | some (.mem cs) => cs.length = g | _ => False) | .fp _ => True | _ => False)) : OpOk E sz ⟨dst, .nilCheck x, ty, pos, after, gd⟩ T M N :=
  .pure _ h fun c a w s => by
    have hR := ev_R s x
    generalize hv : a.eval x = v at hR
    generalize hev : ev E T x = q at hR hx
    cases hR with
    | ptr o off g _ hk h1 hval =>
      simp only at hx
      split at hx
      · rename_i cs hcs
        have := hval ⟨cs, hcs, hx⟩
        subst this
        exact ⟨_, by simp [execOp, hv], .ptr _ _ _ _ hk h1 fun _ => rfl⟩
      · exact hx.elim
    | fp cs B off fv cur ty' fr hp hb hfv hr0 => exact ⟨_, by simp [execOp, hv], .fp cs B off fv cur ty' fr hp hb hfv hr0⟩
    | _ => exact hx.elim

theorem ok_extract (x : Operand) (i : Nat) (vs : List AV) (hx : ev E T x = .tup vs) (hi : i < vs.length) (h : N (vs.getD i .any) M) : OpOk E sz ⟨dst, .extract x i, ty, pos, after, gd⟩ T M N :=
  .pure _ h fun c a w s => by
    have hR := ev_R s x
    rw [hx] at hR
    generalize hv : a.eval x = v at hR
    cases hR with
    | tup _ arr fv hs hf hr =>
      refine ⟨fv i, by simp [execOp, Instr.extract, hv, hf i hi], ?_⟩
      exact hr i _ (by rw [List.getD_eq_getElem?_getD, List.getElem?_eq_getElem hi]; rfl)
theorem ok_field (t : TypeId) (x : Operand) (f foff : Nat) (ft : TypeId) (fs : List (Nat × TypeId)) (size : Nat) (z : List Value) (d : TD) (ht : E.tab t = some (.st fs size z)) (hf : fs[f]? = some (foff, ft)) (hd : E.tab ft = some d)
    (cs : List AV) (hx : ev E T x = .agg cs) (r : AV) (hr : loadA d (cs.drop foff) = some r) (h : N r M) : OpOk E sz ⟨dst, .field t x f, ty, pos, after, gd⟩ T M N :=
  .pure _ h fun c a w s => by
    have hR := ev_R s x
    rw [hx] at hR
    generalize hv : a.eval x = v at hR
    cases hR with
    | agg _ arr fv hs hfv hr0 =>
      obtain ⟨fields, fd, hu, hfd, e1, e2⟩ := (E.ok t _ ht).field hf
      have hD := E.ok ft d hd
      unfold loadA at hr
      by_cases ha : d.isAgg = true
      · rw [if_pos ha] at hr
        split at hr
        · rename_i hl
          injection hr with hr
          subst hr
          rw [List.length_drop] at hl
          refine ⟨.agg (arr.extract foff (foff + d.size)), ?_, ?_⟩
          · simp [execOp, Instr.field, underlying, hu, hfd, hv, asAgg, part, e1, e2, hD.run_isAgg, ha, hD.run_sizeOf]
          · refine .agg _ _ (fun i => fv (foff + i)) ?_ (fun i hi => ?_) (fun i b hi => ?_)
            · simp; omega
            · simp at hi
              rw [Array.getElem?_extract]
              rw [if_pos (by rcases Nat.eq_zero_or_pos d.size with h0 | h0 <;> omega)]
              exact hfv _ (by omega)
            · rw [List.getElem?_take] at hi
              split at hi
              · rw [List.getElem?_drop] at hi; exact hr0 _ b hi
              · cases hi
        · cases hr
      · have ha' : d.isAgg = false := by simpa using ha
        rw [if_neg ha, List.getElem?_drop, Nat.add_zero] at hr
        have hlt := (List.getElem?_eq_some_iff.1 hr).1
        refine ⟨fv foff, ?_, hr0 _ _ hr⟩
        simp [execOp, Instr.field, underlying, hu, hfd, hv, asAgg, part, e1, e2, hD.run_isAgg, ha', hfv foff hlt]

theorem ok_not (t : TypeId) (x : Operand) (b : Bool) (hx : ev E T x = .bool b) (h : N (.bool (!b)) M) : OpOk E sz ⟨dst, .unOp .not t x, ty, pos, after, gd⟩ T M N :=
  .pure _ h fun c a w s => by
    have hR := ev_R s x
    rw [hx] at hR
    generalize hv : a.eval x = v at hR
    cases hR
    exact ⟨.bool (!b), by simp [execOp, Op.unary, hv], .bool _⟩
theorem ok_neg (t : TypeId) (x : Operand) (k : IntKind) (n : Int) (hx : ev E T x = .int k n) (h : N (.int k (k.wrap (0 - n))) M) : OpOk E sz ⟨dst, .unOp .neg t x, ty, pos, after, gd⟩ T M N :=
  .pure _ h fun c a w s => by
    have hR := ev_R s x
    rw [hx] at hR
    generalize hv : a.eval x = v at hR
    cases hR
    exact ⟨.int k (k.wrap (0 - n)), by simp [execOp, Op.unary, Op.intArith, hv], .int _ _⟩
theorem ok_makeFunc (f : FuncId) (caps : Array Operand) (h : N (.fn f (caps.toList.map (ev E T))) M) : OpOk E sz ⟨dst, .makeFunc (.func f) #[] caps, ty, pos, after, gd⟩ T M N :=
  .pure _ h fun c a w s => by
    have := R.fn' (f := f) (evs_R s caps.toList)
    refine ⟨.func (.func f) #[] (caps.map a.eval), by simp [execOp, Instr.makeFunc], ?_⟩
    have e : (caps.toList.map a.eval).toArray = caps.map a.eval := by
      apply Array.ext'; simp
    rw [← e]; exact this

/-! ### Numbers -/
def toV : AV → Value
  | .int k n => .int k n
  | .bool b => .bool b
  | _ => undef
/-- What two numbers of one kind come to. -/
def intA (op : BinOp) (k : IntKind) (x y : Int) : Option AV :=
  match op with
  | .add => some (.int k (k.wrap (x + y)))
  | .sub => some (.int k (k.wrap (x - y)))
  | .mul => some (.int k (k.wrap (x * y)))
  | .eql => some (.bool (decide (x = y)))
  | .neq => some (.bool (decide (x ≠ y)))
  | .lss => some (.bool (decide (x < y)))
  | .leq => some (.bool (decide (x ≤ y)))
  | .gtr => some (.bool (decide (x > y)))
  | .geq => some (.bool (decide (x ≥ y)))
  | .and => some (.int k (k.wrap ((BitVec.ofInt k.bits x &&& BitVec.ofInt k.bits y).toNat)))
  | .or => some (.int k (k.wrap ((BitVec.ofInt k.bits x ||| BitVec.ofInt k.bits y).toNat)))
  | .xor => some (.int k (k.wrap ((BitVec.ofInt k.bits x ^^^ BitVec.ofInt k.bits y).toNat)))
  | _ => none
theorem ok_int (op : BinOp) (t yt : TypeId) (x y : Operand) (k : IntKind) (m n : Int) (hx : ev E T x = .int k m) (hy : ev E T y = .int k n) (r : AV) (hr : intA op k m n = some r) (h : N r M) : OpOk E sz ⟨dst, .binOp op t x y yt, ty, pos, after, gd⟩ T M N :=
  .pure _ h fun c a w s => by
    have hR := ev_R s x
    have hI := ev_R s y
    rw [hx] at hR
    rw [hy] at hI
    generalize hv : a.eval x = v at hR
    generalize hv2 : a.eval y = v2 at hI
    cases hI
    cases hR
    have hg : ∀ op, (eqGuard op t x y (.int k m) (.int k n)).run E.P w = .ok () w := by
      intro op; unfold eqGuard; cases op <;> rfl
    refine ⟨toV r, ?_, ?_⟩
    · cases op <;> simp only [intA, Option.some.injEq] at hr <;> first | (cases hr; done) | skip
      all_goals
        subst hr
        simp only [execOp, hv, hv2, Sem.run_bind, hg, Result.andThen_ok, Sem.run_pure, toV]
        first
          | rfl
          | simp [binOp, Op.intArith, Op.intCmp, Op.intBits, bne, BEq.beq]
    · cases op <;> simp only [intA, Option.some.injEq] at hr <;> first | (cases hr; done) | skip
      all_goals
        subst hr
        first | exact .int _ _ | exact .bool _
theorem ok_quo (t yt : TypeId) (x y : Operand) (k : IntKind) (m n : Int) (hx : ev E T x = .int k m) (hy : ev E T y = .int k n) (h0 : n ≠ 0) (h : N (.int k (k.wrap (m.tdiv n))) M) : OpOk E sz ⟨dst, .binOp .quo t x y yt, ty, pos, after, gd⟩ T M N :=
  .pure _ h fun c a w s => by
    have hR := ev_R s x
    have hI := ev_R s y
    rw [hx] at hR
    rw [hy] at hI
    generalize hv : a.eval x = v at hR
    generalize hv2 : a.eval y = v2 at hI
    cases hI
    cases hR
    exact ⟨.int k (k.wrap (m.tdiv n)), by simp [execOp, hv, hv2, eqGuard, binOp, Op.intDiv, h0], .int _ _⟩
theorem ok_rem (t yt : TypeId) (x y : Operand) (k : IntKind) (m n : Int) (hx : ev E T x = .int k m) (hy : ev E T y = .int k n) (h0 : n ≠ 0) (h : N (.int k (m.tmod n)) M) : OpOk E sz ⟨dst, .binOp .rem t x y yt, ty, pos, after, gd⟩ T M N :=
  .pure _ h fun c a w s => by
    have hR := ev_R s x
    have hI := ev_R s y
    rw [hx] at hR
    rw [hy] at hI
    generalize hv : a.eval x = v at hR
    generalize hv2 : a.eval y = v2 at hI
    cases hI
    cases hR
    exact ⟨.int k (m.tmod n), by simp [execOp, hv, hv2, eqGuard, binOp, Op.intDiv, h0], .int _ _⟩
theorem ok_shl (t yt : TypeId) (x y : Operand) (k yk : IntKind) (m n : Int) (hx : ev E T x = .int k m) (hy : ev E T y = .int yk n) (h0 : 0 ≤ n) (h : N (.int k (k.wrap (m * 2 ^ (min n.toNat k.bits)))) M) : OpOk E sz ⟨dst, .binOp .shl t x y yt, ty, pos, after, gd⟩ T M N :=
  .pure _ h fun c a w s => by
    have hR := ev_R s x
    have hI := ev_R s y
    rw [hx] at hR
    rw [hy] at hI
    generalize hv : a.eval x = v at hR
    generalize hv2 : a.eval y = v2 at hI
    cases hI
    cases hR
    have : ¬ n < 0 := by omega
    exact ⟨.int k (k.wrap (m * 2 ^ (min n.toNat k.bits))), by simp [execOp, hv, hv2, eqGuard, binOp, Op.shift, this], .int _ _⟩
theorem ok_shr (t yt : TypeId) (x y : Operand) (k yk : IntKind) (m n : Int) (hx : ev E T x = .int k m) (hy : ev E T y = .int yk n) (h0 : 0 ≤ n) (h : N (.int k (m.fdiv (2 ^ (min n.toNat k.bits)))) M) : OpOk E sz ⟨dst, .binOp .shr t x y yt, ty, pos, after, gd⟩ T M N :=
  .pure _ h fun c a w s => by
    have hR := ev_R s x
    have hI := ev_R s y
    rw [hx] at hR
    rw [hy] at hI
    generalize hv : a.eval x = v at hR
    generalize hv2 : a.eval y = v2 at hI
    cases hI
    cases hR
    have : ¬ n < 0 := by omega
    exact ⟨.int k (m.fdiv (2 ^ (min n.toNat k.bits))), by simp [execOp, hv, hv2, eqGuard, binOp, Op.shift, this], .int _ _⟩
theorem ok_eqb (t yt : TypeId) (x y : Operand) (m n : Bool) (ht : E.tab t = some .bool) (hx : ev E T x = .bool m) (hy : ev E T y = .bool n) (h : N (.bool (decide (m = n))) M) : OpOk E sz ⟨dst, .binOp .eql t x y yt, ty, pos, after, gd⟩ T M N :=
  .pure _ h fun c a w s => by
    have hR := ev_R s x
    have hI := ev_R s y
    rw [hx] at hR
    rw [hy] at hI
    generalize hv : a.eval x = v at hR
    generalize hv2 : a.eval y = v2 at hI
    cases hI
    cases hR
    have hu := (E.ok t _ ht).1
    refine ⟨.bool (decide (m = n)), ?_, .bool _⟩
    simp [execOp, hv, hv2, eqGuard, binOp, Op.equal, Op.maxDepth, run_equalIn_bool' w 9999 t m n hu]
    cases m <;> cases n <;> rfl
theorem ok_neb (t yt : TypeId) (x y : Operand) (m n : Bool) (ht : E.tab t = some .bool) (hx : ev E T x = .bool m) (hy : ev E T y = .bool n) (h : N (.bool (decide (m ≠ n))) M) : OpOk E sz ⟨dst, .binOp .neq t x y yt, ty, pos, after, gd⟩ T M N :=
  .pure _ h fun c a w s => by
    have hR := ev_R s x
    have hI := ev_R s y
    rw [hx] at hR
    rw [hy] at hI
    generalize hv : a.eval x = v at hR
    generalize hv2 : a.eval y = v2 at hI
    cases hI
    cases hR
    have hu := (E.ok t _ ht).1
    refine ⟨.bool (decide (m ≠ n)), ?_, .bool _⟩
    simp [execOp, hv, hv2, eqGuard, binOp, Op.equal, Op.maxDepth, run_equalIn_bool' w 9999 t m n hu]
    cases m <;> cases n <;> rfl
theorem ok_conv (src dst' : TypeId) (x : Operand) (k k0 : IntKind) (n : Int) (d : TD) (hs : E.tab src = some d) (ht : E.tab dst' = some (.int k)) (hx : ev E T x = .int k0 n) (h : N (.int k (k.wrap n)) M) : OpOk E sz ⟨dst, .convert src dst' x, ty, pos, after, gd⟩ T M N :=
  .pure _ h fun c a w s => by
    have hR := ev_R s x
    rw [hx] at hR
    generalize hv : a.eval x = v at hR
    cases hR
    have hu := (E.ok dst' _ ht).1
    have hsu : ∃ u, E.P.underlying src = some u := by
      have := E.ok src d hs
      cases d with
      | int k => exact ⟨_, this.1⟩
      | str => exact ⟨_, this.1⟩
      | bool => exact ⟨_, this.1⟩
      | oth z => obtain ⟨u, hu, _⟩ := Option.map_eq_some_iff.1 this.1.1; exact ⟨u, hu⟩
      | sl e k b z => exact ⟨_, this.1.1⟩
      | st fs size z => obtain ⟨u, hu, _⟩ := Option.map_eq_some_iff.1 this.1.1; exact ⟨u, hu⟩
      | ar n e k z => exact ⟨_, this.1.1⟩
    obtain ⟨u, hu2⟩ := hsu
    refine ⟨.int k (k.wrap n), ?_, .int _ _⟩
    simp [execOp, hv, convert, underlying, hu, hu2, Conv.intToInt]

/-! ### Strings -/
theorem toList_inj {a b : ByteArray} : (a.toList == b.toList) = decide (a = b) := by
  by_cases e : a = b
  · subst e; simp
  · rw [decide_eq_false e]
    rw [ByteArray.toList_eq, ByteArray.toList_eq]
    simp only [beq_eq_false_iff_ne, ne_eq]
    intro h
    exact e (by obtain ⟨⟨x⟩⟩ := a; obtain ⟨⟨y⟩⟩ := b; simp at h; subst h; rfl)
theorem ok_strAdd (t yt : TypeId) (x y : Operand) (m n : ByteArray) (hx : ev E T x = .str m) (hy : ev E T y = .str n) (hl : m.size + n.size ≤ 9223372036854775807) (h : N (.str (m ++ n)) M) : OpOk E sz ⟨dst, .binOp .add t x y yt, ty, pos, after, gd⟩ T M N :=
  .pure _ h fun c a w s => by
    have hR := ev_R s x
    have hI := ev_R s y
    rw [hx] at hR
    rw [hy] at hI
    generalize hv : a.eval x = v at hR
    generalize hv2 : a.eval y = v2 at hI
    cases hI
    cases hR
    refine ⟨.string (m ++ n), ?_, .str _⟩
    have : ¬ (((m.size + n.size : Nat) : Int) > IntKind.i64.max) := by
      have : IntKind.i64.max = 9223372036854775807 := by decide
      rw [this]; omega
    simp only [execOp, hv, hv2, eqGuard, binOp, Op.stringOp, if_neg this]
    rfl
theorem ok_strEq (t yt : TypeId) (x y : Operand) (m n : ByteArray) (hx : ev E T x = .str m) (hy : ev E T y = .str n) (h : N (.bool (decide (m = n))) M) : OpOk E sz ⟨dst, .binOp .eql t x y yt, ty, pos, after, gd⟩ T M N :=
  .pure _ h fun c a w s => by
    have hR := ev_R s x
    have hI := ev_R s y
    rw [hx] at hR
    rw [hy] at hI
    generalize hv : a.eval x = v at hR
    generalize hv2 : a.eval y = v2 at hI
    cases hI
    cases hR
    refine ⟨.bool (decide (m = n)), ?_, .bool _⟩
    rw [← toList_inj]
    simp [execOp, hv, hv2, eqGuard, binOp, Op.stringOp]
theorem ok_strNe (t yt : TypeId) (x y : Operand) (m n : ByteArray) (hx : ev E T x = .str m) (hy : ev E T y = .str n) (h : N (.bool (!decide (m = n))) M) : OpOk E sz ⟨dst, .binOp .neq t x y yt, ty, pos, after, gd⟩ T M N :=
  .pure _ h fun c a w s => by
    have hR := ev_R s x
    have hI := ev_R s y
    rw [hx] at hR
    rw [hy] at hI
    generalize hv : a.eval x = v at hR
    generalize hv2 : a.eval y = v2 at hI
    cases hI
    cases hR
    refine ⟨.bool (!decide (m = n)), ?_, .bool _⟩
    rw [← toList_inj]
    simp [execOp, hv, hv2, eqGuard, binOp, Op.stringOp]

/-! ### Calls -/
theorem ok_call (x : Operand) (args : Array Operand) (ats : Array TypeId) (f : FuncId) (caps : List AV) (hx : ev E T x = .fn f caps) (h : AC E f (args.toList.map (ev E T) ++ caps) M N) : OpOk E sz ⟨dst, .call ⟨.value x, args, ats⟩, ty, pos, after, gd⟩ T M N := by
  intro c a w next Q s k
  have hR := ev_R s x
  rw [hx] at hR
  generalize hv : a.eval x = v at hR
  cases hR with
  | fn _ _ arr fv hs hf hr =>
    have hargs : Rl c M w.heap (args.toList.map (ev E T) ++ caps) (args.map a.eval ++ arr).toList := by
      have h1 := evs_R s args.toList
      have h2 : Rl c M w.heap caps arr.toList := ⟨by simp [hs], fun i b hi => ⟨fv i, by simpa using hf i (List.getElem?_eq_some_iff.1 hi).1, hr i b hi⟩⟩
      simpa using h1.append h2
    have hc := h.2 c w (args.map a.eval ++ arr) s.sim hargs
    unfold Oper.wp
    have hrun : (execOp a.eval ⟨dst, .call ⟨.value x, args, ats⟩, ty, pos, after, gd⟩).run E.P w = .ok (.enter f (args.map a.eval ++ arr)) w := by
      have he := h.1 (args.map a.eval ++ arr) w
      simp [execOp, resolve, Deferred.ofValue, hv, invoke, he]
    rw [hrun]
    refine hc.mono ?_
    rintro e w' ⟨r, v, M', c', rfl, hq, hf, hw, hs, hR⟩
    exact k r v M' c' w' hq hf hw hs hR
def lenA : AV → Option Nat
  | .nils => some 0
  | .fz _ xs => some xs.length
  | .str s => some s.size
  | _ => none
theorem ok_len (x : Operand) (t : TypeId) (n : Nat) (d : TD) (ht : E.tab t = some d) (hd : (match d, ev E T x with | .sl .., .fz .. => True | .sl .., .nils => True | .str, .str _ => True | _, _ => False)) (hn : lenA (ev E T x) = some n) (h : N (.int .i64 n) M) :
    OpOk E sz ⟨dst, .call ⟨.builtin .len, #[x], #[t]⟩, ty, pos, after, gd⟩ T M N :=
  .pure _ h fun c a w s => by
    have hR := ev_R s x
    have hT := E.ok t d ht
    generalize hv : a.eval x = v at hR
    generalize hev : ev E T x = q at hR hn hd
    refine ⟨.int .i64 n, ?_, .int _ _⟩
    cases hR with
    | nils =>
      injection hn with hn; subst hn
      cases d <;> first | (exact hd.elim) | skip
      simp [execOp, resolve, invoke, builtin, Builtin.len_, underlying, hT.1.1, hv, goInt]
    | fz0 k A cap =>
      injection hn with hn; subst hn
      cases d <;> first | (exact hd.elim) | skip
      simp [execOp, resolve, invoke, builtin, Builtin.len_, underlying, hT.1.1, hv, goInt]
    | fz k xs B off cap f cur ty' fr hp hb hl hk hf hr =>
      injection hn with hn; subst hn
      cases d <;> first | (exact hd.elim) | skip
      simp [execOp, resolve, invoke, builtin, Builtin.len_, underlying, hT.1.1, hv, goInt]
    | str s =>
      injection hn with hn; subst hn
      cases d <;> first | (exact hd.elim) | skip
      simp [execOp, resolve, invoke, builtin, Builtin.len_, underlying, hT.1, hv, goInt]
    | _ => cases hn
theorem ok_lenl (x : Operand) (t : TypeId) (k o off len g : Nat) (e : TypeId) (k' by' : Nat) (ez : List Value) (ht : E.tab t = some (.sl e k' by' ez)) (hx : ev E T x = .sl k o off len g) (cs : List AV) (ho : M[o]? = some (.mem cs)) (hg : cs.length = g) (h : N (.int .i64 len) M) :
    OpOk E sz ⟨dst, .call ⟨.builtin .len, #[x], #[t]⟩, ty, pos, after, gd⟩ T M N :=
  .pure _ h fun c a w s => by
    have hR := ev_R s x
    rw [hx] at hR
    generalize hv : a.eval x = v at hR
    cases hR with
    | sl _ _ _ _ _ _ hk h1' hval =>
      obtain ⟨hle, cap, rfl, _⟩ := hval ⟨cs, ho, hg⟩
      have hT := E.ok t _ ht
      refine ⟨.int .i64 len, ?_, .int _ _⟩
      simp [execOp, resolve, invoke, builtin, Builtin.len_, underlying, hT.1.1, hv, goInt]
theorem ok_max (x y : Operand) (ts : Array TypeId) (k : IntKind) (m n : Int) (hx : ev E T x = .int k m) (hy : ev E T y = .int k n) (h : N (.int k (if n > m then n else m)) M) : OpOk E sz ⟨dst, .call ⟨.builtin .max, #[x, y], ts⟩, ty, pos, after, gd⟩ T M N :=
  .pure _ h fun c a w s => by
    have hR := ev_R s x
    have hI := ev_R s y
    rw [hx] at hR
    rw [hy] at hI
    generalize hv : a.eval x = v at hR
    generalize hv2 : a.eval y = v2 at hI
    cases hI
    cases hR
    exact ⟨_, by simp [execOp, resolve, invoke, builtin, Builtin.max_, Builtin.max2, hv, hv2], .int _ _⟩
theorem ok_min (x y : Operand) (ts : Array TypeId) (k : IntKind) (m n : Int) (hx : ev E T x = .int k m) (hy : ev E T y = .int k n) (h : N (.int k (if n < m then n else m)) M) : OpOk E sz ⟨dst, .call ⟨.builtin .min, #[x, y], ts⟩, ty, pos, after, gd⟩ T M N :=
  .pure _ h fun c a w s => by
    have hR := ev_R s x
    have hI := ev_R s y
    rw [hx] at hR
    rw [hy] at hI
    generalize hv : a.eval x = v at hR
    generalize hv2 : a.eval y = v2 at hI
    cases hI
    cases hR
    exact ⟨_, by simp [execOp, resolve, invoke, builtin, Builtin.min_, Builtin.min2, hv, hv2], .int _ _⟩
end
end Go.Ax
