/- The rules of reckoning for regions that draw. Printed by genax.py (this session's own). -/
import Derived.Test.YtnbfoiidlbfbeaaGreatAx12
set_option linter.unusedVariables false
set_option linter.unusedSimpArgs false
namespace Go.Ax
theorem axd0 :
    (∀ (E : Env) (T : Tm) (M : List AO) (s : AV) (M1 : List AO) (eff : Bool) (x y z : Operand), opD E T M s M1 eff (.pick x y z) = opA E T M (fun r M' => r = s ∧ M' = M1) (.pick x y z)) ∧
    (∀ (E : Env) (T : Tm) (M : List AO) (s : AV) (M1 : List AO) (eff : Bool) (t : TypeId) (x : Operand), opD E T M s M1 eff (.box t x) = opA E T M (fun r M' => r = s ∧ M' = M1) (.box t x)) ∧
    (∀ (E : Env) (T : Tm) (M : List AO) (s : AV) (M1 : List AO) (eff : Bool) (t : TypeId), opD E T M s M1 eff (.alloc t) = opA E T M (fun r M' => r = s ∧ M' = M1) (.alloc t)) ∧
    (∀ (E : Env) (T : Tm) (M : List AO) (s : AV) (M1 : List AO) (eff : Bool) (t : TypeId) (x : Operand), opD E T M s M1 eff (.load t x) = opA E T M (fun r M' => r = s ∧ M' = M1) (.load t x)) ∧
    (∀ (E : Env) (T : Tm) (M : List AO) (s : AV) (M1 : List AO) (eff : Bool) (t : TypeId) (x y : Operand), opD E T M s M1 eff (.store t x y) = opA E T M (fun r M' => r = s ∧ M' = M1) (.store t x y)) ∧
    (∀ (E : Env) (T : Tm) (M : List AO) (s : AV) (M1 : List AO) (eff : Bool) (x : Operand), opD E T M s M1 eff (.nilCheck x) = opA E T M (fun r M' => r = s ∧ M' = M1) (.nilCheck x)) ∧
    (∀ (E : Env) (T : Tm) (M : List AO) (s : AV) (M1 : List AO) (eff : Bool) (op : BinOp) (t : TypeId) (x y : Operand) (yt : TypeId), opD E T M s M1 eff (.binOp op t x y yt) = opA E T M (fun r M' => r = s ∧ M' = M1) (.binOp op t x y yt)) ∧
    (∀ (E : Env) (T : Tm) (M : List AO) (s : AV) (M1 : List AO) (eff : Bool) (t : TypeId) (x : Operand), opD E T M s M1 eff (.unOp .not t x) = opA E T M (fun r M' => r = s ∧ M' = M1) (.unOp .not t x)) ∧
    (∀ (E : Env) (T : Tm) (M : List AO) (s : AV) (M1 : List AO) (eff : Bool) (t : TypeId) (x : Operand), opD E T M s M1 eff (.unOp .neg t x) = opA E T M (fun r M' => r = s ∧ M' = M1) (.unOp .neg t x)) ∧
    (∀ (E : Env) (T : Tm) (M : List AO) (s : AV) (M1 : List AO) (eff : Bool) (src dst : TypeId) (x : Operand), opD E T M s M1 eff (.convert src dst x) = opA E T M (fun r M' => r = s ∧ M' = M1) (.convert src dst x)) ∧
    (∀ (E : Env) (T : Tm) (M : List AO) (s : AV) (M1 : List AO) (eff : Bool) (f : FuncId) (first caps : Array Operand), opD E T M s M1 eff (.makeFunc (.func f) first caps) = opA E T M (fun r M' => r = s ∧ M' = M1) (.makeFunc (.func f) first caps)) ∧
    (∀ (E : Env) (T : Tm) (M : List AO) (s : AV) (M1 : List AO) (eff : Bool) (t : TypeId) (x : Operand) (lo hi mx : Option Operand), opD E T M s M1 eff (.slice t x lo hi mx) = opA E T M (fun r M' => r = s ∧ M' = M1) (.slice t x lo hi mx)) :=
  ⟨by intros; rfl, by intros; rfl, by intros; rfl, by intros; rfl, by intros; rfl, by intros; rfl, by intros; rfl, by intros; rfl, by intros; rfl, by intros; rfl, by intros; rfl, by intros; rfl⟩
theorem axd1 :
    (∀ (E : Env) (T : Tm) (M : List AO) (s : AV) (M1 : List AO) (eff : Bool) (t : TypeId) (x : Operand) (f : Nat), opD E T M s M1 eff (.fieldAddr t x f) = opA E T M (fun r M' => r = s ∧ M' = M1) (.fieldAddr t x f)) ∧
    (∀ (E : Env) (T : Tm) (M : List AO) (s : AV) (M1 : List AO) (eff : Bool) (t : TypeId) (x : Operand) (f : Nat), opD E T M s M1 eff (.field t x f) = opA E T M (fun r M' => r = s ∧ M' = M1) (.field t x f)) ∧
    (∀ (E : Env) (T : Tm) (M : List AO) (s : AV) (M1 : List AO) (eff : Bool) (t : TypeId) (x y : Operand), opD E T M s M1 eff (.indexAddr t x y) = opA E T M (fun r M' => r = s ∧ M' = M1) (.indexAddr t x y)) ∧
    (∀ (E : Env) (T : Tm) (M : List AO) (s : AV) (M1 : List AO) (eff : Bool) (t : TypeId) (x y : Operand), opD E T M s M1 eff (.index t x y) = opA E T M (fun r M' => r = s ∧ M' = M1) (.index t x y)) ∧
    (∀ (E : Env) (T : Tm) (M : List AO) (s : AV) (M1 : List AO) (eff : Bool) (x : Operand) (i : Nat), opD E T M s M1 eff (.extract x i) = opA E T M (fun r M' => r = s ∧ M' = M1) (.extract x i)) ∧
    (∀ (E : Env) (T : Tm) (M : List AO) (s : AV) (M1 : List AO) (eff : Bool) (c : Call), opD E T M s M1 eff (.call c) = opA E T M (fun r M' => r = s ∧ M' = M1) (.call c)) ∧
    (∀ (E : Env) (T : Tm) (M : List AO) (s : AV) (M1 : List AO) (eff : Bool) (t : TypeId) (parts : Array (Nat × Operand)), opD E T M s M1 eff (.build t parts) = opA E T M (fun r M' => r = s ∧ M' = M1) (.build t parts)) ∧
    (∀ (E : Env) (T : Tm) (M : List AO) (s : AV) (M1 : List AO) (eff : Bool) (t : TypeId) (x y : Operand), opD E T M s M1 eff (.makeSlice t x y) = opA E T M (fun r M' => r = s ∧ M' = M1) (.makeSlice t x y)) ∧
    (∀ (E : Env) (T : Tm) (M : List AO) (s : AV) (M1 : List AO) (eff : Bool) (t : TypeId) (r : Option Operand), opD E T M s M1 eff (.makeMap t r) = opA E T M (fun r M' => r = s ∧ M' = M1) (.makeMap t r)) ∧
    (∀ (E : Env) (T : Tm) (M : List AO) (s : AV) (M1 : List AO) (eff : Bool) (t : TypeId) (x y : Operand) (ok : Bool), opD E T M s M1 eff (.lookup t x y ok) = opA E T M (fun r M' => r = s ∧ M' = M1) (.lookup t x y ok)) ∧
    (∀ (E : Env) (T : Tm) (M : List AO) (s : AV) (M1 : List AO) (eff : Bool) (t : TypeId) (m k x : Operand), opD E T M s M1 eff (.mapUpdate t m k x) = opA E T M (fun r M' => r = s ∧ M' = M1) (.mapUpdate t m k x)) ∧
    (∀ (E : Env) (T : Tm) (M : List AO) (s : AV) (M1 : List AO) (eff : Bool) (x : Operand), opD E T M s M1 eff (.move x) = opA E T M (fun r M' => r = s ∧ M' = M1) (.move x)) :=
  ⟨by intros; rfl, by intros; rfl, by intros; rfl, by intros; rfl, by intros; rfl, by intros; rfl, by intros; rfl, by intros; rfl, by intros; rfl, by intros; rfl, by intros; rfl, by intros; rfl⟩
theorem axd2 :
    (∀ (E : Env) (T : Tm) (M : List AO) (s : AV) (M1 : List AO) (eff : Bool) (x : Operand), opD E T M s M1 eff (.assign x) = opA E T M (fun r M' => r = s ∧ M' = M1) (.assign x)) ∧
    (∀ (E : Env) (T : Tm) (M : List AO) (s : AV) (M1 : List AO) (t : TypeId) (len : Nat) (parts : Array (Nat × Operand)), opD E T M s M1 true (.buildSlice t len parts) = opA E T M (fun r M' => r = s ∧ M' = M1) (.buildSlice t len parts)) ∧
    (∀ (E : Env) (T : Tm) (M : List AO) (s : AV) (M1 : List AO) (t : TypeId) (len : Nat) (parts : Array (Nat × Operand)), opD E T M s M1 false (.buildSlice t len parts) = (litA E T s t len parts.toList ∧ M = M1)) ∧
    (∀ (E : Env) (T : Tm) (s : AV) (t : TypeId) (len : Nat) (parts : List (Nat × Operand)), litA E T s t len parts = match E.tab t with
    | some (.sl e k by' ez) => len * k ≤ 16777216 ∧ (match fillA (fun i => some (i * k, k)) (zerosA ez len) (parts.map fun p => (p.1, ev E T p.2)) with
      | some cs => sizesA k (chunkA k len cs) ∧ flat (chunkA k len cs) = cs ∧ .fz k (chunkA k len cs) = s
      | none => False)
    | _ => False) ∧
    (∀ (k : Nat) (cs : List AV), chunkA k 0 cs = []) ∧
    (∀ (k n : Nat) (cs : List AV), chunkA k (n + 1) cs = (if k = 1 then cs.headD .any else .agg (cs.take k)) :: chunkA k n (cs.drop k)) ∧
    (∀ a b : AV, (if True then a else b) = a) ∧
    (∀ a b : AV, (if False then a else b) = b) ∧
    (∀ (a d : AV) (l : List AV), (a :: l).headD d = a) ∧
    (∀ k : Nat, sizesA k [] = True) ∧
    (∀ (k : Nat) (x : AV) (xs : List AV), sizesA k (x :: xs) = (x.cells.length = k ∧ sizesA k xs)) ∧
    (flat [] = []) :=
  ⟨by intros; rfl, by intros; rfl, by intros; rfl, by intros; rfl, by intros; rfl, by intros; rfl, by intros; simp, by intros; simp, by intros; rfl, by intros; rfl, by intros; rfl, rfl⟩
theorem axd3 :
    (∀ (x : AV) (xs : List AV), flat (x :: xs) = x.cells ++ flat xs) ∧
    (∀ (E : Env) (ds : List (Option Tmp)) (T : Tm) (M : List AO) (s : AV) (M1 : List AO) (eff : Bool) (dst : Option Tmp) (op : Op) (ty : TypeId) (pos : String) (after : Array Edge), detA E ds T M s M1 eff ⟨dst, op, ty, pos, after, none⟩ = opD E T M s M1 eff op) ∧
    (∀ (E : Env) (ds : List (Option Tmp)) (T : Tm) (M : List AO) (s : AV) (M1 : List AO) (eff : Bool) (dst : Option Tmp) (op : Op) (ty : TypeId) (pos : String) (after : Array Edge) (g : Nat × Bool), detA E ds T M s M1 eff ⟨dst, op, ty, pos, after, some g⟩ = gA (guardA ds T (some g)) (opD E T M s M1 eff op) (.any = s ∧ M = M1)) ∧
    (∀ M : List AO, allP [] M = True) ∧
    (∀ (p : List AO → Prop) (l : List (List AO → Prop)) (M : List AO), allP (p :: l) M = (p M ∧ allP l M)) ∧
    (∀ f : List AO → Prop, allM [] f = True) ∧
    (∀ (M : List AO) (l : List (List AO)) (f : List AO → Prop), allM (M :: l) f = (f M ∧ allM l f)) ∧
    (∀ (E : Env) (sz : Nat) (ds : List (Option Tmp)) (Q : Tm → List AO → Prop) (T : Tm) (M : List AO) (H : List (List AO)) (Pd : List (List AO → Prop)) (l : List Oper), drawA E sz ds Q [] l T M H Pd = alA E sz ds Q l T M) ∧
    (∀ (E : Env) (sz : Nat) (ds : List (Option Tmp)) (Q : Tm → List AO → Prop) (T : Tm) (M : List AO) (H : List (List AO)) (Pd : List (List AO → Prop)) (cl : List Nat) (o : Oper) (l : List Oper), drawA E sz ds Q (0 :: cl) (o :: l) T M H Pd = (fits sz o.dst ∧ ∃ s, detA E ds T M s M false o ∧ drawA E sz ds Q cl l (putA T o.dst s) M H Pd)) ∧
    (∀ (E : Env) (sz : Nat) (ds : List (Option Tmp)) (Q : Tm → List AO → Prop) (T : Tm) (M : List AO) (H : List (List AO)) (Pd : List (List AO → Prop)) (cl : List Nat) (o : Oper) (l : List Oper), drawA E sz ds Q (1 :: cl) (o :: l) T M H Pd = (fits sz o.dst ∧ ∃ M1 s, detA E ds T M s M1 true o ∧ allP Pd M1 ∧ drawA E sz ds Q cl l (putA T o.dst s) M1 (M :: H) Pd)) ∧
    (∀ (E : Env) (sz : Nat) (ds : List (Option Tmp)) (Q : Tm → List AO → Prop) (T : Tm) (M : List AO) (H : List (List AO)) (Pd : List (List AO → Prop)) (cl : List Nat) (o : Oper) (l : List Oper), drawA E sz ds Q (2 :: cl) (o :: l) T M H Pd = (fits sz o.dst ∧ ∃ s, (∀ M', detA E ds T M' s M' false o) ∧ drawA E sz ds Q cl l (putA T o.dst s) M H Pd)) ∧
    (∀ (E : Env) (sz : Nat) (ds : List (Option Tmp)) (Q : Tm → List AO → Prop) (T : Tm) (M : List AO) (H : List (List AO)) (Pd : List (List AO → Prop)) (cl : List Nat) (o : Oper) (l : List Oper), drawA E sz ds Q (3 :: cl) (o :: l) T M H Pd = (fits sz o.dst ∧ ∃ s, detA E ds T M s M false o ∧ allM H (fun M' => detA E ds T M' s M' false o) ∧ drawA E sz ds Q cl l (putA T o.dst s) M H ((fun M' => detA E ds T M' s M' false o) :: Pd))) :=
  ⟨by intros; rfl, by intros; rfl, by intros; rfl, by intros; rfl, by intros; rfl, by intros; rfl, by intros; rfl, by intros; unfold drawA; rfl, by intros; rw [drawA], by intros; rw [drawA], by intros; rw [drawA], by intros; rw [drawA] <;> omega⟩
theorem axd4 :
    (∀ p : Prop, (∀ _ : List AO, p) = p) ∧
    (∀ (v : AV) (p : AV → Prop), (∃ s, v = s ∧ p s) = p v) ∧
    (∀ (v : List AO) (p : List AO → Prop), (∃ s, v = s ∧ p s) = p v) ∧
    (∀ (b : Prop) (p : AV → Prop), (∃ s, b ∧ p s) = (b ∧ ∃ s, p s)) ∧
    (∀ (b : Prop) (p : List AO → Prop), (∃ s, b ∧ p s) = (b ∧ ∃ s, p s)) ∧
    (∀ (p q r : Prop), ((p ∧ q) ∧ r) = (p ∧ q ∧ r)) :=
  ⟨by intros; simp, by intros; simp, by intros; simp, by intros; simp, by intros; simp, by intros; simp only [and_assoc]⟩
theorem axd : (
    (∀ (E : Env) (T : Tm) (M : List AO) (s : AV) (M1 : List AO) (eff : Bool) (x y z : Operand), opD E T M s M1 eff (.pick x y z) = opA E T M (fun r M' => r = s ∧ M' = M1) (.pick x y z)) ∧
    (∀ (E : Env) (T : Tm) (M : List AO) (s : AV) (M1 : List AO) (eff : Bool) (t : TypeId) (x : Operand), opD E T M s M1 eff (.box t x) = opA E T M (fun r M' => r = s ∧ M' = M1) (.box t x)) ∧
    (∀ (E : Env) (T : Tm) (M : List AO) (s : AV) (M1 : List AO) (eff : Bool) (t : TypeId), opD E T M s M1 eff (.alloc t) = opA E T M (fun r M' => r = s ∧ M' = M1) (.alloc t)) ∧
    (∀ (E : Env) (T : Tm) (M : List AO) (s : AV) (M1 : List AO) (eff : Bool) (t : TypeId) (x : Operand), opD E T M s M1 eff (.load t x) = opA E T M (fun r M' => r = s ∧ M' = M1) (.load t x)) ∧
    (∀ (E : Env) (T : Tm) (M : List AO) (s : AV) (M1 : List AO) (eff : Bool) (t : TypeId) (x y : Operand), opD E T M s M1 eff (.store t x y) = opA E T M (fun r M' => r = s ∧ M' = M1) (.store t x y)) ∧
    (∀ (E : Env) (T : Tm) (M : List AO) (s : AV) (M1 : List AO) (eff : Bool) (x : Operand), opD E T M s M1 eff (.nilCheck x) = opA E T M (fun r M' => r = s ∧ M' = M1) (.nilCheck x)) ∧
    (∀ (E : Env) (T : Tm) (M : List AO) (s : AV) (M1 : List AO) (eff : Bool) (op : BinOp) (t : TypeId) (x y : Operand) (yt : TypeId), opD E T M s M1 eff (.binOp op t x y yt) = opA E T M (fun r M' => r = s ∧ M' = M1) (.binOp op t x y yt)) ∧
    (∀ (E : Env) (T : Tm) (M : List AO) (s : AV) (M1 : List AO) (eff : Bool) (t : TypeId) (x : Operand), opD E T M s M1 eff (.unOp .not t x) = opA E T M (fun r M' => r = s ∧ M' = M1) (.unOp .not t x)) ∧
    (∀ (E : Env) (T : Tm) (M : List AO) (s : AV) (M1 : List AO) (eff : Bool) (t : TypeId) (x : Operand), opD E T M s M1 eff (.unOp .neg t x) = opA E T M (fun r M' => r = s ∧ M' = M1) (.unOp .neg t x)) ∧
    (∀ (E : Env) (T : Tm) (M : List AO) (s : AV) (M1 : List AO) (eff : Bool) (src dst : TypeId) (x : Operand), opD E T M s M1 eff (.convert src dst x) = opA E T M (fun r M' => r = s ∧ M' = M1) (.convert src dst x)) ∧
    (∀ (E : Env) (T : Tm) (M : List AO) (s : AV) (M1 : List AO) (eff : Bool) (f : FuncId) (first caps : Array Operand), opD E T M s M1 eff (.makeFunc (.func f) first caps) = opA E T M (fun r M' => r = s ∧ M' = M1) (.makeFunc (.func f) first caps)) ∧
    (∀ (E : Env) (T : Tm) (M : List AO) (s : AV) (M1 : List AO) (eff : Bool) (t : TypeId) (x : Operand) (lo hi mx : Option Operand), opD E T M s M1 eff (.slice t x lo hi mx) = opA E T M (fun r M' => r = s ∧ M' = M1) (.slice t x lo hi mx))) ∧ (
    (∀ (E : Env) (T : Tm) (M : List AO) (s : AV) (M1 : List AO) (eff : Bool) (t : TypeId) (x : Operand) (f : Nat), opD E T M s M1 eff (.fieldAddr t x f) = opA E T M (fun r M' => r = s ∧ M' = M1) (.fieldAddr t x f)) ∧
    (∀ (E : Env) (T : Tm) (M : List AO) (s : AV) (M1 : List AO) (eff : Bool) (t : TypeId) (x : Operand) (f : Nat), opD E T M s M1 eff (.field t x f) = opA E T M (fun r M' => r = s ∧ M' = M1) (.field t x f)) ∧
    (∀ (E : Env) (T : Tm) (M : List AO) (s : AV) (M1 : List AO) (eff : Bool) (t : TypeId) (x y : Operand), opD E T M s M1 eff (.indexAddr t x y) = opA E T M (fun r M' => r = s ∧ M' = M1) (.indexAddr t x y)) ∧
    (∀ (E : Env) (T : Tm) (M : List AO) (s : AV) (M1 : List AO) (eff : Bool) (t : TypeId) (x y : Operand), opD E T M s M1 eff (.index t x y) = opA E T M (fun r M' => r = s ∧ M' = M1) (.index t x y)) ∧
    (∀ (E : Env) (T : Tm) (M : List AO) (s : AV) (M1 : List AO) (eff : Bool) (x : Operand) (i : Nat), opD E T M s M1 eff (.extract x i) = opA E T M (fun r M' => r = s ∧ M' = M1) (.extract x i)) ∧
    (∀ (E : Env) (T : Tm) (M : List AO) (s : AV) (M1 : List AO) (eff : Bool) (c : Call), opD E T M s M1 eff (.call c) = opA E T M (fun r M' => r = s ∧ M' = M1) (.call c)) ∧
    (∀ (E : Env) (T : Tm) (M : List AO) (s : AV) (M1 : List AO) (eff : Bool) (t : TypeId) (parts : Array (Nat × Operand)), opD E T M s M1 eff (.build t parts) = opA E T M (fun r M' => r = s ∧ M' = M1) (.build t parts)) ∧
    (∀ (E : Env) (T : Tm) (M : List AO) (s : AV) (M1 : List AO) (eff : Bool) (t : TypeId) (x y : Operand), opD E T M s M1 eff (.makeSlice t x y) = opA E T M (fun r M' => r = s ∧ M' = M1) (.makeSlice t x y)) ∧
    (∀ (E : Env) (T : Tm) (M : List AO) (s : AV) (M1 : List AO) (eff : Bool) (t : TypeId) (r : Option Operand), opD E T M s M1 eff (.makeMap t r) = opA E T M (fun r M' => r = s ∧ M' = M1) (.makeMap t r)) ∧
    (∀ (E : Env) (T : Tm) (M : List AO) (s : AV) (M1 : List AO) (eff : Bool) (t : TypeId) (x y : Operand) (ok : Bool), opD E T M s M1 eff (.lookup t x y ok) = opA E T M (fun r M' => r = s ∧ M' = M1) (.lookup t x y ok)) ∧
    (∀ (E : Env) (T : Tm) (M : List AO) (s : AV) (M1 : List AO) (eff : Bool) (t : TypeId) (m k x : Operand), opD E T M s M1 eff (.mapUpdate t m k x) = opA E T M (fun r M' => r = s ∧ M' = M1) (.mapUpdate t m k x)) ∧
    (∀ (E : Env) (T : Tm) (M : List AO) (s : AV) (M1 : List AO) (eff : Bool) (x : Operand), opD E T M s M1 eff (.move x) = opA E T M (fun r M' => r = s ∧ M' = M1) (.move x))) ∧ (
    (∀ (E : Env) (T : Tm) (M : List AO) (s : AV) (M1 : List AO) (eff : Bool) (x : Operand), opD E T M s M1 eff (.assign x) = opA E T M (fun r M' => r = s ∧ M' = M1) (.assign x)) ∧
    (∀ (E : Env) (T : Tm) (M : List AO) (s : AV) (M1 : List AO) (t : TypeId) (len : Nat) (parts : Array (Nat × Operand)), opD E T M s M1 true (.buildSlice t len parts) = opA E T M (fun r M' => r = s ∧ M' = M1) (.buildSlice t len parts)) ∧
    (∀ (E : Env) (T : Tm) (M : List AO) (s : AV) (M1 : List AO) (t : TypeId) (len : Nat) (parts : Array (Nat × Operand)), opD E T M s M1 false (.buildSlice t len parts) = (litA E T s t len parts.toList ∧ M = M1)) ∧
    (∀ (E : Env) (T : Tm) (s : AV) (t : TypeId) (len : Nat) (parts : List (Nat × Operand)), litA E T s t len parts = match E.tab t with
    | some (.sl e k by' ez) => len * k ≤ 16777216 ∧ (match fillA (fun i => some (i * k, k)) (zerosA ez len) (parts.map fun p => (p.1, ev E T p.2)) with
      | some cs => sizesA k (chunkA k len cs) ∧ flat (chunkA k len cs) = cs ∧ .fz k (chunkA k len cs) = s
      | none => False)
    | _ => False) ∧
    (∀ (k : Nat) (cs : List AV), chunkA k 0 cs = []) ∧
    (∀ (k n : Nat) (cs : List AV), chunkA k (n + 1) cs = (if k = 1 then cs.headD .any else .agg (cs.take k)) :: chunkA k n (cs.drop k)) ∧
    (∀ a b : AV, (if True then a else b) = a) ∧
    (∀ a b : AV, (if False then a else b) = b) ∧
    (∀ (a d : AV) (l : List AV), (a :: l).headD d = a) ∧
    (∀ k : Nat, sizesA k [] = True) ∧
    (∀ (k : Nat) (x : AV) (xs : List AV), sizesA k (x :: xs) = (x.cells.length = k ∧ sizesA k xs)) ∧
    (flat [] = [])) ∧ (
    (∀ (x : AV) (xs : List AV), flat (x :: xs) = x.cells ++ flat xs) ∧
    (∀ (E : Env) (ds : List (Option Tmp)) (T : Tm) (M : List AO) (s : AV) (M1 : List AO) (eff : Bool) (dst : Option Tmp) (op : Op) (ty : TypeId) (pos : String) (after : Array Edge), detA E ds T M s M1 eff ⟨dst, op, ty, pos, after, none⟩ = opD E T M s M1 eff op) ∧
    (∀ (E : Env) (ds : List (Option Tmp)) (T : Tm) (M : List AO) (s : AV) (M1 : List AO) (eff : Bool) (dst : Option Tmp) (op : Op) (ty : TypeId) (pos : String) (after : Array Edge) (g : Nat × Bool), detA E ds T M s M1 eff ⟨dst, op, ty, pos, after, some g⟩ = gA (guardA ds T (some g)) (opD E T M s M1 eff op) (.any = s ∧ M = M1)) ∧
    (∀ M : List AO, allP [] M = True) ∧
    (∀ (p : List AO → Prop) (l : List (List AO → Prop)) (M : List AO), allP (p :: l) M = (p M ∧ allP l M)) ∧
    (∀ f : List AO → Prop, allM [] f = True) ∧
    (∀ (M : List AO) (l : List (List AO)) (f : List AO → Prop), allM (M :: l) f = (f M ∧ allM l f)) ∧
    (∀ (E : Env) (sz : Nat) (ds : List (Option Tmp)) (Q : Tm → List AO → Prop) (T : Tm) (M : List AO) (H : List (List AO)) (Pd : List (List AO → Prop)) (l : List Oper), drawA E sz ds Q [] l T M H Pd = alA E sz ds Q l T M) ∧
    (∀ (E : Env) (sz : Nat) (ds : List (Option Tmp)) (Q : Tm → List AO → Prop) (T : Tm) (M : List AO) (H : List (List AO)) (Pd : List (List AO → Prop)) (cl : List Nat) (o : Oper) (l : List Oper), drawA E sz ds Q (0 :: cl) (o :: l) T M H Pd = (fits sz o.dst ∧ ∃ s, detA E ds T M s M false o ∧ drawA E sz ds Q cl l (putA T o.dst s) M H Pd)) ∧
    (∀ (E : Env) (sz : Nat) (ds : List (Option Tmp)) (Q : Tm → List AO → Prop) (T : Tm) (M : List AO) (H : List (List AO)) (Pd : List (List AO → Prop)) (cl : List Nat) (o : Oper) (l : List Oper), drawA E sz ds Q (1 :: cl) (o :: l) T M H Pd = (fits sz o.dst ∧ ∃ M1 s, detA E ds T M s M1 true o ∧ allP Pd M1 ∧ drawA E sz ds Q cl l (putA T o.dst s) M1 (M :: H) Pd)) ∧
    (∀ (E : Env) (sz : Nat) (ds : List (Option Tmp)) (Q : Tm → List AO → Prop) (T : Tm) (M : List AO) (H : List (List AO)) (Pd : List (List AO → Prop)) (cl : List Nat) (o : Oper) (l : List Oper), drawA E sz ds Q (2 :: cl) (o :: l) T M H Pd = (fits sz o.dst ∧ ∃ s, (∀ M', detA E ds T M' s M' false o) ∧ drawA E sz ds Q cl l (putA T o.dst s) M H Pd)) ∧
    (∀ (E : Env) (sz : Nat) (ds : List (Option Tmp)) (Q : Tm → List AO → Prop) (T : Tm) (M : List AO) (H : List (List AO)) (Pd : List (List AO → Prop)) (cl : List Nat) (o : Oper) (l : List Oper), drawA E sz ds Q (3 :: cl) (o :: l) T M H Pd = (fits sz o.dst ∧ ∃ s, detA E ds T M s M false o ∧ allM H (fun M' => detA E ds T M' s M' false o) ∧ drawA E sz ds Q cl l (putA T o.dst s) M H ((fun M' => detA E ds T M' s M' false o) :: Pd)))) ∧ (
    (∀ p : Prop, (∀ _ : List AO, p) = p) ∧
    (∀ (v : AV) (p : AV → Prop), (∃ s, v = s ∧ p s) = p v) ∧
    (∀ (v : List AO) (p : List AO → Prop), (∃ s, v = s ∧ p s) = p v) ∧
    (∀ (b : Prop) (p : AV → Prop), (∃ s, b ∧ p s) = (b ∧ ∃ s, p s)) ∧
    (∀ (b : Prop) (p : List AO → Prop), (∃ s, b ∧ p s) = (b ∧ ∃ s, p s)) ∧
    (∀ (p q r : Prop), ((p ∧ q) ∧ r) = (p ∧ q ∧ r))) :=
  ⟨axd0, axd1, axd2, axd3, axd4⟩
end Go.Ax
