/- The rules of reckoning, under one name. Printed by genax.py (this session's own). -/
import Derived.Test.YtnbfoiidlbfbeaaGreatAx8
set_option linter.unusedVariables false
set_option linter.unusedSimpArgs false
namespace Go.Ax
def contA (E : Env) (sz : Nat) (ds : List (Option Tmp)) (Q : Tm → List AO → Prop) (rest : List Oper) (T : Tm) (dst : Option Tmp) : AV → List AO → Prop := fun r M1 => alA E sz ds Q rest (putA T dst r) M1
def atA (N : AV → List AO → Prop) (M : List AO) : AV → Prop := fun r => N r M
theorem contA_eq (E : Env) (sz : Nat) (ds : List (Option Tmp)) (Q : Tm → List AO → Prop) (rest : List Oper) (T : Tm) (dst : Option Tmp) (r : AV) (M1 : List AO) : contA E sz ds Q rest T dst r M1 = alA E sz ds Q rest (putA T dst r) M1 := rfl
theorem atA_eq (N : AV → List AO → Prop) (M : List AO) (r : AV) : atA N M r = N r M := rfl
def hold {α : Type} (a : α) (f : α → Prop) : Prop := f a
@[congr] theorem hold_cg {α : Type} {a a' : α} {f : α → Prop} (h : a = a') : hold a f = hold a' f := by rw [h]
theorem hold_eq {α : Type} (a : α) (f : α → Prop) : hold a f = f a := rfl
@[congr] theorem gA_congr {x y : Option Bool} {p q : Prop} (h : x = y) : gA x p q = gA y p q := by rw [h]
@[congr] theorem AC_congr {E : Env} {f : FuncId} {args args' : List AV} {M M' : List AO} {Q : AV → List AO → Prop} (h : args = args') (h2 : M = M') : AC E f args M Q = AC E f args' M' Q := by rw [h, h2]
@[congr] theorem opA_cg {E : Env} {T T' : Tm} {M M' : List AO} {N : AV → List AO → Prop} {op op' : Op} (h1 : T = T') (h2 : M = M') (h3 : op = op') : opA E T M N op = opA E T' M' N op' := by rw [h1, h2, h3]
@[congr] theorem callA_cg {E : Env} {T T' : Tm} {M M' : List AO} {N : AV → List AO → Prop} {c c' : Callee} {xs xs' : List Operand} {ts ts' : List TypeId} (h1 : T = T') (h2 : M = M') (h3 : c = c') (h4 : xs = xs') (h5 : ts = ts') : callA E T M N c xs ts = callA E T' M' N c' xs' ts' := by rw [h1, h2, h3, h4, h5]
@[congr] theorem binA_cg {E : Env} {M : List AO} {op : BinOp} {t : TypeId} {x x' y y' : AV} {N : AV → Prop} (h1 : x = x') (h2 : y = y') : binA E M op t x y N = binA E M op t x' y' N := by rw [h1, h2]
@[congr] theorem someA_cg {x x' : Option AV} {N : AV → Prop} (h1 : x = x') : someA x N = someA x' N := by rw [h1]
@[congr] theorem alA_cg {E : Env} {sz : Nat} {ds ds' : List (Option Tmp)} {Q : Tm → List AO → Prop} {l l' : List Oper} {T T' : Tm} {M M' : List AO} (h0 : ds = ds') (h1 : l = l') (h2 : T = T') (h3 : M = M') : alA E sz ds Q l T M = alA E sz ds' Q l' T' M' := by rw [h0, h1, h2, h3]
@[congr] theorem AW_cg {E : Env} {n n' sz : Nat} {c : Code} {T T' : Tm} {M M' : List AO} {Q : Exit → Tm → List AO → Prop} (h0 : n = n') (h2 : T = T') (h3 : M = M') : AW E n sz c T M Q = AW E n' sz c T' M' Q := by rw [h0, h2, h3]
theorem ax0 :
    (∀ (next : Tm → List AO → Prop) (Q : Exit → Tm → List AO → Prop) (T : Tm) (M : List AO), thenA next Q .normal T M = next T M) ∧
    (∀ (next : Tm → List AO → Prop) (Q : Exit → Tm → List AO → Prop) (i : Nat) (T : Tm) (M : List AO), thenA next Q (.exit i) T M = Q (.exit i) T M) ∧
    (∀ (next : Tm → List AO → Prop) (Q : Exit → Tm → List AO → Prop) (T : Tm) (M : List AO), thenA next Q .ret T M = Q .ret T M) ∧
    (∀ (i : Nat) (Q : Exit → Tm → List AO → Prop) (T : Tm) (M : List AO), inBlockA i Q .normal T M = Q .normal T M) ∧
    (∀ (i : Nat) (Q : Exit → Tm → List AO → Prop) (T : Tm) (M : List AO), inBlockA i Q .ret T M = Q .ret T M) ∧
    (∀ (i j : Nat) (Q : Exit → Tm → List AO → Prop) (T : Tm) (M : List AO), inBlockA i Q (.exit j) T M = if j = i then Q .normal T M else Q (.exit j) T M) ∧
    (∀ p q : Prop, (if True then p else q) = p) ∧
    (∀ p q : Prop, (if False then p else q) = q) ∧
    (∀ sz d : Nat, fits sz (some d) = (d < sz)) ∧
    (∀ sz : Nat, fits sz none = True) ∧
    (∀ (T : Tm) (d : Nat) (r : AV), putA T (some d) r = updA T d r) ∧
    (∀ (T : Tm) (r : AV), putA T none r = T) :=
  ⟨by intros; rfl, by intros; rfl, by intros; rfl, by intros; rfl, by intros; rfl, by intros; rfl, by intros; exact if_pos trivial, by intros; exact if_neg (fun h => h), by intros; rfl, by intros; rfl, by intros; rfl, by intros; rfl⟩
theorem ax1 :
    (∀ (E : Env) (T : Tm) (t : Nat), ev E T (.tmp t) = T t) ∧
    (∀ (E : Env) (T : Tm) (v : Value), ev E T (.const v) = ofZ v) ∧
    (∀ (E : Env) (T : Tm) (f : Nat), ev E T (.func f) = .fn f []) ∧
    (∀ (E : Env) (T : Tm) (g : Nat), ev E T (.global g) = match E.G g with | some cs => .fp cs | none => .any) ∧
    (∀ (T : Tm) (d : Nat) (r : AV), updA T d r d = r) ∧
    (∀ (T : Tm) (d : Nat) (r : AV) (i : Nat), ¬ i = d → updA T d r i = T i) ∧
    (∀ (l : List AV) (i : Nat), argsT l i = l.getD i .any) ∧
    (∀ (a d : AV) (l : List AV), (a :: l).getD 0 d = a) ∧
    (∀ (a d : AV) (l : List AV) (n : Nat), (a :: l).getD (n + 1) d = l.getD n d) ∧
    (∀ (d : AV) (n : Nat), ([] : List AV).getD n d = d) ∧
    (∀ (l : List AV), l.drop 0 = l) ∧
    (∀ (a : AV) (l : List AV) (n : Nat), (a :: l).drop (n + 1) = l.drop n) :=
  ⟨by intros; rfl, by intros; rfl, by intros; rfl, by intros; rfl, by intros; simp [updA], by intro T d r i h; simp [updA, h], by intros; rfl, by intros; simp, by intros; simp, by intros; simp, by intros; simp, by intros; simp⟩
theorem ax2 :
    (∀ (a : AV) (l : List AV), (a :: l)[0]? = some a) ∧
    (∀ (a : AV) (l : List AV) (n : Nat), (a :: l)[n + 1]? = l[n]?) ∧
    (∀ (a : AV) (l : List AV) (n : Nat), (a :: l).take (n + 1) = a :: l.take n) ∧
    (∀ (l : List AV), l.take 0 = []) ∧
    (∀ (a b : AV) (l : List AV), (a :: l).set 0 b = b :: l) ∧
    (∀ (a b : AV) (l : List AV) (n : Nat), (a :: l).set (n + 1) b = a :: l.set n b) ∧
    (∀ (a b : AO) (l : List AO), (a :: l).set 0 b = b :: l) ∧
    (∀ (a b : AO) (l : List AO) (n : Nat), (a :: l).set (n + 1) b = a :: l.set n b) ∧
    (∀ (a : AO) (l : List AO), (a :: l)[0]? = some a) ∧
    (∀ (a : AO) (l : List AO) (n : Nat), (a :: l)[n + 1]? = l[n]?) ∧
    (∀ (l : List AV), [] ++ l = l) ∧
    (∀ (a : AV) (l m : List AV), (a :: l) ++ m = a :: (l ++ m)) :=
  ⟨by intros; simp, by intros; simp, by intros; simp, by intros; simp, by intros; simp, by intros; simp, by intros; simp, by intros; simp, by intros; simp, by intros; simp, by intros; rfl, by intros; rfl⟩
theorem ax3 :
    (∀ (l : List AO), [] ++ l = l) ∧
    (∀ (a : AO) (l m : List AO), (a :: l) ++ m = a :: (l ++ m)) ∧
    (∀ (a : AV) (l : List AV), (a :: l).length = l.length + 1) ∧
    (([] : List AV).length = 0) ∧
    (∀ (a : AO) (l : List AO), (a :: l).length = l.length + 1) ∧
    (([] : List AO).length = 0) ∧
    (∀ (f : Operand → AV), ([] : List Operand).map f = []) ∧
    (∀ (f : Operand → AV) (x : Operand) (l : List Operand), (x :: l).map f = f x :: l.map f) ∧
    (∀ (f : Value → AV), ([] : List Value).map f = []) ∧
    (∀ (f : Value → AV) (x : Value) (l : List Value), (x :: l).map f = f x :: l.map f) ∧
    (∀ (f : Oper → Option Tmp), ([] : List Oper).map f = []) ∧
    (∀ (f : Oper → Option Tmp) (x : Oper) (l : List Oper), (x :: l).map f = f x :: l.map f) :=
  ⟨by intros; rfl, by intros; rfl, by intros; rfl, rfl, by intros; rfl, rfl, by intros; rfl, by intros; rfl, by intros; rfl, by intros; rfl, by intros; rfl, by intros; rfl⟩
theorem ax4 :
    (∀ (f : Nat × Operand → Nat × AV), ([] : List (Nat × Operand)).map f = []) ∧
    (∀ (f : Nat × Operand → Nat × AV) (x : Nat × Operand) (l : List (Nat × Operand)), (x :: l).map f = f x :: l.map f) ∧
    (∀ (a : Option Tmp) (l : List (Option Tmp)), (a :: l)[0]? = some a) ∧
    (∀ (a : Option Tmp) (l : List (Option Tmp)) (n : Nat), (a :: l)[n + 1]? = l[n]?) ∧
    (∀ (a : Nat × TypeId) (l : List (Nat × TypeId)), (a :: l)[0]? = some a) ∧
    (∀ (a : Nat × TypeId) (l : List (Nat × TypeId)) (n : Nat), (a :: l)[n + 1]? = l[n]?) ∧
    (∀ (E : Env) (sz : Nat) (ds : List (Option Tmp)) (Q : Tm → List AO → Prop) (T : Tm) (M : List AO), alA E sz ds Q [] T M = Q T M) ∧
    (∀ (E : Env) (sz : Nat) (ds : List (Option Tmp)) (Q : Tm → List AO → Prop) (dst : Option Tmp) (op : Op) (ty : TypeId) (pos : String) (after : Array Edge) (rest : List Oper) (T : Tm) (M : List AO), alA E sz ds Q (⟨dst, op, ty, pos, after, none⟩ :: rest) T M = (fits sz dst ∧ opA E T M (contA E sz ds Q rest T dst) op)) ∧
    (∀ (E : Env) (sz : Nat) (ds : List (Option Tmp)) (Q : Tm → List AO → Prop) (dst : Option Tmp) (op : Op) (ty : TypeId) (pos : String) (after : Array Edge) (g : Nat × Bool) (rest : List Oper) (T : Tm) (M : List AO), alA E sz ds Q (⟨dst, op, ty, pos, after, some g⟩ :: rest) T M = (fits sz dst ∧ gA (guardA ds T (some g)) (opA E T M (contA E sz ds Q rest T dst) op) (alA E sz ds Q rest (putA T dst .any) M))) ∧
    (∀ p q : Prop, gA (some true) p q = p) ∧
    (∀ p q : Prop, gA (some false) p q = q) ∧
    (∀ (ds : List (Option Tmp)) (T : Tm) (j : Nat) (want : Bool), guardA ds T (some (j, want)) = match ds[j]? with | some (some d) => (match T d with | .bool b => some (b == want) | _ => none) | _ => none) :=
  ⟨by intros; rfl, by intros; rfl, by intros; simp, by intros; simp, by intros; simp, by intros; simp, by intros; rfl, by intros; rfl, by intros; rfl, by intros; rfl, by intros; rfl, by intros; rfl⟩
theorem ax5 :
    (∀ b : Bool, (b == true) = b) ∧
    (∀ b : Bool, (b == false) = !b) ∧
    ((!true) = false) ∧
    ((!false) = true) ∧
    (∀ x y : AV, (if true = true then x else y) = x) ∧
    (∀ x y : AV, (if false = true then x else y) = y) ∧
    (∀ (b x y : Bool), (if b = true then AV.bool x else AV.bool y) = AV.bool (bif b then x else y)) ∧
    (∀ (b : Bool) (k : IntKind) (x y : Int), (if b = true then AV.int k x else AV.int k y) = AV.int k (if b = true then x else y)) ∧
    (∀ b : Bool, (bif b then true else false) = b) ∧
    (∀ b x : Bool, (bif b then x else false) = (b && x)) ∧
    (∀ b x : Bool, (bif b then true else x) = (b || x)) ∧
    (∀ (p : Prop), (True ∧ p) = p) :=
  ⟨by intro b; cases b <;> rfl, by intro b; cases b <;> rfl, rfl, rfl, by intros; simp, by intros; simp, by intro b x y; cases b <;> simp, by intro b k x y; cases b <;> simp, by intro b; cases b <;> rfl, by intro b x; cases b <;> rfl, by intro b x; cases b <;> rfl, by intros; simp⟩
theorem ax6 :
    (∀ (p : Prop), (False ∧ p) = False) ∧
    (∀ (p : Prop), (p ∧ True) = p) ∧
    (∀ cs : List AV, (AV.agg cs).cells = cs) ∧
    (∀ b : Bool, AV.cells (.bool b) = [.bool b]) ∧
    (∀ b : Bool, AV.whole (.bool b) = true) ∧
    (∀ b : Bool, AV.one (.bool b) = true) ∧
    (∀ (k : IntKind) (n : Int), AV.cells (.int k n) = [.int k n]) ∧
    (∀ (k : IntKind) (n : Int), AV.whole (.int k n) = true) ∧
    (∀ (k : IntKind) (n : Int), AV.one (.int k n) = true) ∧
    (∀ s : ByteArray, AV.cells (.str s) = [.str s]) ∧
    (∀ s : ByteArray, AV.whole (.str s) = true) ∧
    (∀ s : ByteArray, AV.one (.str s) = true) :=
  ⟨by intros; simp, by intros; simp, by intros; rfl, by intros; rfl, by intros; rfl, by intros; rfl, by intros; rfl, by intros; rfl, by intros; rfl, by intros; rfl, by intros; rfl, by intros; rfl⟩
theorem ax7 :
    (∀ o f g : Nat, AV.cells (.ptr o f g) = [.ptr o f g]) ∧
    (∀ o f g : Nat, AV.whole (.ptr o f g) = true) ∧
    (∀ o f g : Nat, AV.one (.ptr o f g) = true) ∧
    (∀ k o f l g : Nat, AV.cells (.sl k o f l g) = [.sl k o f l g]) ∧
    (∀ k o f l g : Nat, AV.whole (.sl k o f l g) = true) ∧
    (∀ k o f l g : Nat, AV.one (.sl k o f l g) = true) ∧
    (∀ (k : Nat) (xs : List AV), AV.cells (.fz k xs) = [.fz k xs]) ∧
    (∀ (k : Nat) (xs : List AV), AV.whole (.fz k xs) = true) ∧
    (∀ (k : Nat) (xs : List AV), AV.one (.fz k xs) = true) ∧
    (∀ (f : FuncId) (cs : List AV), AV.cells (.fn f cs) = [.fn f cs]) ∧
    (∀ (f : FuncId) (cs : List AV), AV.whole (.fn f cs) = true) ∧
    (∀ (f : FuncId) (cs : List AV), AV.one (.fn f cs) = true) :=
  ⟨by intros; rfl, by intros; rfl, by intros; rfl, by intros; rfl, by intros; rfl, by intros; rfl, by intros; rfl, by intros; rfl, by intros; rfl, by intros; rfl, by intros; rfl, by intros; rfl⟩
theorem ax8 :
    (∀ cs : List AV, AV.cells (.fp cs) = [.fp cs]) ∧
    (∀ cs : List AV, AV.whole (.fp cs) = true) ∧
    (∀ cs : List AV, AV.one (.fp cs) = true) ∧
    (AV.cells .nilp = [.nilp]) ∧
    (AV.whole .nilp = true) ∧
    (AV.one .nilp = true) ∧
    (AV.cells .nili = [.nili]) ∧
    (AV.whole .nili = true) ∧
    (AV.one .nili = true) ∧
    (AV.cells .nilf = [.nilf]) ∧
    (AV.whole .nilf = true) ∧
    (AV.one .nilf = true) :=
  ⟨by intros; rfl, by intros; rfl, by intros; rfl, rfl, rfl, rfl, rfl, rfl, rfl, rfl, rfl, rfl⟩
theorem ax9 :
    (AV.cells .nils = [.nils]) ∧
    (AV.whole .nils = true) ∧
    (AV.one .nils = true) ∧
    (AV.cells .ifc = [.ifc]) ∧
    (AV.whole .ifc = true) ∧
    (AV.one .ifc = true) ∧
    (∀ cs : List AV, (AV.agg cs).whole = cs.all AV.one) ∧
    (([] : List AV).all AV.one = true) ∧
    (∀ (a : AV) (l : List AV), (a :: l).all AV.one = (a.one && l.all AV.one)) ∧
    (∀ x : Bool, (true && x) = x) ∧
    (∀ (k : IntKind) (n : Int), ofZ (.int k n) = .int k n) ∧
    (∀ b : Bool, ofZ (.bool b) = .bool b) :=
  ⟨rfl, rfl, rfl, rfl, rfl, rfl, by intros; rfl, rfl, by intros; rfl, by intros; simp, by intros; rfl, by intros; rfl⟩
theorem ax10 :
    (∀ s : ByteArray, ofZ (.string s) = .str s) ∧
    (ofZ (.slice none 0 0) = .nils) ∧
    (ofZ .nilFunc = .nilf) ∧
    (ofZ .nilIface = .nili) ∧
    (ofZ (.pointer none) = .nilp) ∧
    (∀ cs : List Value, ofZ (.agg cs.toArray) = .agg (cs.map ofV)) ∧
    (∀ (k : IntKind) (n : Int), ofV (.int k n) = .int k n) ∧
    (∀ b : Bool, ofV (.bool b) = .bool b) ∧
    (∀ s : ByteArray, ofV (.string s) = .str s) ∧
    (ofV (.slice none 0 0) = .nils) ∧
    (ofV .nilFunc = .nilf) ∧
    (ofV .nilIface = .nili) :=
  ⟨by intros; rfl, rfl, rfl, rfl, rfl, by intros; rfl, by intros; rfl, by intros; rfl, by intros; rfl, rfl, rfl, rfl⟩
theorem ax11 :
    (ofV (.pointer none) = .nilp) ∧
    (∀ k : IntKind, TD.size (.int k) = 1) ∧
    (∀ k : IntKind, TD.isAgg (.int k) = false) ∧
    (∀ k : IntKind, TD.zero (.int k) = .int k 0) ∧
    (TD.size (.str) = 1) ∧
    (TD.isAgg (.str) = false) ∧
    (TD.zero (.str) = .string ByteArray.empty) ∧
    (TD.size (.bool) = 1) ∧
    (TD.isAgg (.bool) = false) ∧
    (TD.zero (.bool) = .bool false) ∧
    (∀ z : Value, TD.size (.oth z) = 1) ∧
    (∀ z : Value, TD.isAgg (.oth z) = false) :=
  ⟨rfl, by intros; rfl, by intros; rfl, by intros; rfl, rfl, rfl, rfl, rfl, rfl, rfl, by intros; rfl, by intros; rfl⟩
theorem ax12 :
    (∀ z : Value, TD.zero (.oth z) = z) ∧
    (∀ (e k b : Nat) (z : List Value), TD.size (.sl e k b z) = 1) ∧
    (∀ (e k b : Nat) (z : List Value), TD.isAgg (.sl e k b z) = false) ∧
    (∀ (e k b : Nat) (z : List Value), TD.zero (.sl e k b z) = .slice none 0 0) ∧
    (∀ (fs : List (Nat × TypeId)) (s : Nat) (z : List Value), TD.size (.st fs s z) = s) ∧
    (∀ (fs : List (Nat × TypeId)) (s : Nat) (z : List Value), TD.isAgg (.st fs s z) = true) ∧
    (∀ (fs : List (Nat × TypeId)) (s : Nat) (z : List Value), TD.zero (.st fs s z) = .agg z.toArray) ∧
    (∀ (E : Env) (T : Tm) (M : List AO) (N : AV → List AO → Prop) (x : Operand), opA E T M N (.move x) = N (ev E T x) M) ∧
    (∀ (E : Env) (T : Tm) (M : List AO) (N : AV → List AO → Prop) (x : Operand), opA E T M N (.assign x) = N (ev E T x) M) ∧
    (∀ (E : Env) (T : Tm) (M : List AO) (N : AV → List AO → Prop) (x y z : Operand), opA E T M N (.pick x y z) = (hold (ev E T x) fun z1 => match z1 with
    | .bool b => N (if b = true then ev E T y else ev E T z) M
    | _ => False)) ∧
    (∀ (E : Env) (T : Tm) (M : List AO) (N : AV → List AO → Prop) (t : TypeId) (x : Operand), opA E T M N (.box t x) = ((ev E T x).whole = true ∧ N (.ptr M.length 0 (ev E T x).cells.length) (M ++ [.mem (ev E T x).cells]))) ∧
    (∀ (E : Env) (T : Tm) (M : List AO) (N : AV → List AO → Prop) (t : TypeId), opA E T M N (.alloc t) = (hold (E.tab t) fun z1 => match z1 with
    | some d => (ofZ d.zero).whole = true ∧ N (.ptr M.length 0 (ofZ d.zero).cells.length) (M ++ [.mem (ofZ d.zero).cells])
    | none => False)) :=
  ⟨by intros; rfl, by intros; rfl, by intros; rfl, by intros; rfl, by intros; rfl, by intros; rfl, by intros; rfl, by intros; rfl, by intros; rfl, by intros; rfl, by intros; rfl, by intros; rfl⟩
theorem ax13 :
    (∀ (E : Env) (T : Tm) (M : List AO) (N : AV → List AO → Prop) (t : TypeId) (x : Operand), opA E T M N (.load t x) = (hold (E.tab t) fun z1 => hold (behindA M (ev E T x)) fun z2 => match z1, z2 with
    | some d, some cs => someA (loadA d cs) (atA N M)
    | _, _ => False)) ∧
    (∀ (E : Env) (T : Tm) (M : List AO) (N : AV → List AO → Prop) (t : TypeId) (x y : Operand), opA E T M N (.store t x y) = (hold (E.tab t) fun z1 => hold (ev E T x) fun z2 => match z1, z2 with
    | some d, .ptr o off g => (hold (M[o]?) fun z3 => match z3 with
      | some (.mem cs) => cs.length = g ∧ (ev E T y).whole = true ∧ (ev E T y).cells.length = d.size ∧ off + d.size ≤ g ∧ N .any (M.set o (.mem (putA' cs off (ev E T y).cells)))
      | _ => False)
    | _, _ => False)) ∧
    (∀ (E : Env) (T : Tm) (M : List AO) (N : AV → List AO → Prop) (x : Operand), opA E T M N (.nilCheck x) = ((hold (ev E T x) fun z1 => match z1 with
    | .ptr o _ g => (hold (M[o]?) fun z2 => match z2 with | some (.mem cs) => cs.length = g | _ => False)
    | .fp _ => True
    | _ => False) ∧ N (ev E T x) M)) ∧
    (∀ (E : Env) (T : Tm) (M : List AO) (N : AV → List AO → Prop) (op : BinOp) (t : TypeId) (x y : Operand) (yt : TypeId), opA E T M N (.binOp op t x y yt) = (binA E M op t (ev E T x) (ev E T y) (atA N M))) ∧
    (∀ (E : Env) (T : Tm) (M : List AO) (N : AV → List AO → Prop) (t : TypeId) (x : Operand), opA E T M N (.unOp .not t x) = (hold (ev E T x) fun z1 => match z1 with
    | .bool b => N (.bool (!b)) M
    | _ => False)) ∧
    (∀ (E : Env) (T : Tm) (M : List AO) (N : AV → List AO → Prop) (t : TypeId) (x : Operand), opA E T M N (.unOp .neg t x) = (hold (ev E T x) fun z1 => match z1 with
    | .int k n => N (.int k (k.wrap (0 - n))) M
    | _ => False)) ∧
    (∀ (E : Env) (T : Tm) (M : List AO) (N : AV → List AO → Prop) (src dst : TypeId) (x : Operand), opA E T M N (.convert src dst x) = (hold (E.tab src) fun z1 => hold (E.tab dst) fun z2 => hold (ev E T x) fun z3 => match z1, z2, z3 with
    | some _, some (.int k), .int _ n => N (.int k (k.wrap n)) M
    | _, _, _ => False)) ∧
    (∀ (E : Env) (T : Tm) (M : List AO) (N : AV → List AO → Prop) (f : FuncId) (first caps : Array Operand), opA E T M N (.makeFunc (.func f) first caps) = (first = #[] ∧ N (.fn f (caps.toList.map (ev E T))) M)) ∧
    (∀ (E : Env) (T : Tm) (M : List AO) (N : AV → List AO → Prop) (t : TypeId) (x : Operand) (lo hi : Option Operand), opA E T M N (.slice t x lo hi none) = (hold (E.tab t) fun z1 => hold (ev E T x) fun z2 => match z1, z2 with
    | some (.sl e k by' ez), .fz k' xs => k = k' ∧ (hold (bdA E T lo 0) fun z3 => hold (bdA E T hi xs.length) fun z4 => match z3, z4 with
      | some l, some h => 0 ≤ l ∧ l ≤ h ∧ h ≤ xs.length ∧ N (.fz k ((xs.drop l.toNat).take (h.toNat - l.toNat))) M
      | _, _ => False)
    | some (.sl e k by' ez), .sl k' o off len g => k = k' ∧ (hold (M[o]?) fun z5 => match z5 with | some (.mem cs) => cs.length = g | _ => False) ∧ (hold (bdA E T lo 0) fun z6 => hold (bdA E T hi len) fun z7 => match z6, z7 with
      | some l, some h => 0 ≤ l ∧ l ≤ h ∧ off + h.toNat * k ≤ g ∧ (if off + l.toNat * k < g then N (.sl k o (off + l.toNat * k) (h.toNat - l.toNat) g) M else N (.fz k []) M)
      | _, _ => False)
    | some .str, .str q => (hold (bdA E T lo 0) fun z8 => hold (bdA E T hi q.size) fun z9 => match z8, z9 with
      | some l, some h => 0 ≤ l ∧ l ≤ h ∧ h ≤ q.size ∧ N (.str (q.extract l.toNat h.toNat)) M
      | _, _ => False)
    | _, _ => False)) ∧
    (∀ (E : Env) (T : Tm) (M : List AO) (N : AV → List AO → Prop) (t : TypeId) (x lo hi mx : Operand), opA E T M N (.slice t x (some lo) (some hi) (some mx)) = (hold (E.tab t) fun z1 => hold (ev E T x) fun z2 => match z1, z2 with
    | some (.sl e k by' ez), .sl k' o off len g => k = k' ∧ (hold (M[o]?) fun z3 => match z3 with | some (.mem cs) => cs.length = g | _ => False) ∧ (hold (ev E T lo) fun z4 => hold (ev E T hi) fun z5 => hold (ev E T mx) fun z6 => match z4, z5, z6 with
      | .int _ l, .int _ h, .int _ m => 0 ≤ l ∧ l ≤ h ∧ h ≤ m ∧ off + m.toNat * k ≤ g ∧ N .any M
      | _, _, _ => False)
    | _, _ => False)) ∧
    (∀ (E : Env) (T : Tm) (M : List AO) (N : AV → List AO → Prop) (t : TypeId) (parts : Array (Nat × Operand)), opA E T M N (.build t parts) = (hold (E.tab t) fun z1 => match z1 with
    | some (.st fs size z) => fs.all (fun p => (E.tab p.2).isSome) = true ∧ (hold (fillA (fun i => (placesA E fs)[i]?) (z.map ofV) (parts.toList.map fun p => (p.1, ev E T p.2))) fun z2 => match z2 with
      | some cs => N (.agg cs) M
      | none => False)
    | _ => False)) ∧
    (∀ (E : Env) (T : Tm) (M : List AO) (N : AV → List AO → Prop) (t : TypeId) (x y : Operand), opA E T M N (.makeSlice t x y) = (hold (E.tab t) fun z1 => hold (ev E T x) fun z2 => hold (ev E T y) fun z3 => match z1, z2, z3 with
    | some (.sl e k by' ez), .int _ l, .int _ c => 0 ≤ l ∧ l ≤ c ∧ c * by' ≤ 281474976710656 ∧ N (.sl k M.length 0 l.toNat (c.toNat * k)) (M ++ [.mem (zerosA ez c.toNat)])
    | _, _, _ => False)) :=
  ⟨by intros; rfl, by intros; rfl, by intros; rfl, by intros; rfl, by intros; rfl, by intros; rfl, by intros; rfl, by intros; rfl, by intros; rfl, by intros; rfl, by intros; rfl, by intros; rfl⟩
theorem ax14 :
    (∀ (E : Env) (T : Tm) (M : List AO) (N : AV → List AO → Prop) (t : TypeId) (x : Operand) (f : Nat), opA E T M N (.fieldAddr t x f) = (hold (E.tab t) fun z1 => match z1 with
    | some (.st fs _ _) => (hold (fs[f]?) fun z2 => match z2 with
      | some (off, ft) => (hold (E.tab ft) fun z3 => match z3 with
        | some d => 0 < d.size ∧ (hold (ev E T x) fun z4 => match z4 with
          | .ptr o off0 g => (hold (M[o]?) fun z5 => match z5 with | some (.mem cs) => cs.length = g | _ => False) ∧ N (.ptr o (off0 + off) g) M
          | .fp cs => N (.fp (cs.drop off)) M
          | _ => False)
        | none => False)
      | none => False)
    | _ => False)) ∧
    (∀ (E : Env) (T : Tm) (M : List AO) (N : AV → List AO → Prop) (t : TypeId) (x : Operand) (f : Nat), opA E T M N (.field t x f) = (hold (E.tab t) fun z1 => hold (ev E T x) fun z2 => match z1, z2 with
    | some (.st fs _ _), .agg cs => (hold (fs[f]?) fun z3 => match z3 with
      | some (off, ft) => (hold (E.tab ft) fun z4 => match z4 with
        | some d => someA (loadA d (cs.drop off)) (atA N M)
        | none => False)
      | none => False)
    | _, _ => False)) ∧
    (∀ (E : Env) (T : Tm) (M : List AO) (N : AV → List AO → Prop) (t : TypeId) (x y : Operand), opA E T M N (.indexAddr t x y) = (hold (E.tab t) fun z1 => hold (ev E T x) fun z2 => hold (ev E T y) fun z3 => match z1, z2, z3 with
    | some (.sl e k by' ez), .sl k' o off len g, .int _ i => k = k' ∧ (hold (M[o]?) fun z4 => match z4 with | some (.mem cs) => cs.length = g | _ => False) ∧ 0 ≤ i ∧ i < len ∧ N (.ptr o (off + i.toNat * k) g) M
    | some (.sl e k by' ez), .fz k' xs, .int _ i => k = k' ∧ 0 ≤ i ∧ i < xs.length ∧ N (.fp (xs.getD i.toNat .any).cells) M
    | _, _, _ => False)) ∧
    (∀ (E : Env) (T : Tm) (M : List AO) (N : AV → List AO → Prop) (t : TypeId) (x y : Operand), opA E T M N (.index t x y) = (hold (E.tab t) fun z1 => hold (ev E T x) fun z2 => hold (ev E T y) fun z3 => match z1, z2, z3 with
    | some .str, .str q, .int _ i => 0 ≤ i ∧ i < q.size ∧ N (.int .u8 ((q.data.getD i.toNat 0).toNat : Int)) M
    | _, _, _ => False)) ∧
    (∀ (E : Env) (T : Tm) (M : List AO) (N : AV → List AO → Prop) (x : Operand) (i : Nat), opA E T M N (.extract x i) = (hold (ev E T x) fun z1 => match z1 with
    | .tup vs => i < vs.length ∧ N (vs.getD i .any) M
    | _ => False)) ∧
    (∀ (E : Env) (T : Tm) (M : List AO) (N : AV → List AO → Prop) (t : TypeId) (len : Nat) (parts : Array (Nat × Operand)), opA E T M N (.buildSlice t len parts) = (hold (E.tab t) fun z1 => match z1 with
    | some (.sl e k by' ez) => len * k ≤ 16777216 ∧ (hold (fillA (fun i => some (i * k, k)) (zerosA ez len) (parts.toList.map fun p => (p.1, ev E T p.2))) fun z2 => match z2 with
      | some cs => N (.sl k M.length 0 len (len * k)) (M ++ [.mem cs])
      | none => False)
    | _ => False)) ∧
    (∀ (E : Env) (T : Tm) (M : List AO) (N : AV → List AO → Prop) (c : Call), opA E T M N (.call c) = (callA E T M N c.callee c.args.toList c.argTypes.toList)) ∧
    (∀ (E : Env) (T : Tm) (M : List AO) (N : AV → List AO → Prop) (f : Operand) (args : List Operand) (ts : List TypeId), callA E T M N (.value f) args ts = hold (ev E T f) fun z1 => match z1 with | .fn g caps => AC E g (args.map (ev E T) ++ caps) M N | _ => False) ∧
    (∀ (E : Env) (T : Tm) (M : List AO) (N : AV → List AO → Prop) (x : Operand) (t : TypeId), callA E T M N (.builtin .len) [x] [t] = (hold (E.tab t) fun z1 => hold (ev E T x) fun z2 => match z1, z2 with
    | some (.sl ..), .nils => N (.int .i64 0) M
    | some (.sl ..), .fz _ xs => N (.int .i64 xs.length) M
    | some .str, .str s => N (.int .i64 s.size) M
    | some (.sl ..), .sl _ o _ len g => (hold (M[o]?) fun z3 => match z3 with | some (.mem cs) => cs.length = g | _ => False) ∧ N (.int .i64 len) M
    | _, _ => False)) ∧
    (∀ (E : Env) (T : Tm) (M : List AO) (N : AV → List AO → Prop) (x y : Operand) (ts : List TypeId), callA E T M N (.builtin .max) [x, y] ts = (hold (ev E T x) fun z1 => hold (ev E T y) fun z2 => match z1, z2 with
    | .int k m, .int k' n => k = k' ∧ N (.int k (if n > m then n else m)) M
    | _, _ => False)) ∧
    (∀ (E : Env) (T : Tm) (M : List AO) (N : AV → List AO → Prop) (x y : Operand) (ts : List TypeId), callA E T M N (.builtin .min) [x, y] ts = (hold (ev E T x) fun z1 => hold (ev E T y) fun z2 => match z1, z2 with
    | .int k m, .int k' n => k = k' ∧ N (.int k (if n < m then n else m)) M
    | _, _ => False)) ∧
    (∀ (E : Env) (T : Tm) (M : List AO) (N : AV → List AO → Prop) (x y : Operand) (t t' : TypeId), callA E T M N (.builtin .append) [x, y] [t, t'] = (t = t' ∧ hold (E.tab t) fun z1 => hold (ev E T x) fun z2 => match z1, z2 with
    | some (.sl e k by' ez), .sl k' o off len g => k = k' ∧ (hold (M[o]?) fun z3 => match z3 with
      | some (.mem cs) => cs.length = g ∧ (hold (rdA M (ev E T y)) fun z4 => match z4 with
        | some (m, ys) => ys.length = m * k ∧ ys.all AV.one = true ∧ (if off = 0 ∧ len * k = g then (len + m) * by' ≤ 140737488355328 ∧ N (.sl k o 0 (len + m) (g + m * k)) (M.set o (.mem (cs ++ ys)))
          else off + (len + m) * k ≤ g ∧ N (.sl k o off (len + m) g) (M.set o (.mem (putA' cs (off + len * k) ys))))
        | none => False)
      | _ => False)
    | some (.sl e k by' ez), .nils => (hold (rdA M (ev E T y)) fun z5 => match z5 with
        | some (m, ys) => ys.length = m * k ∧ ys.all AV.one = true ∧ m * by' ≤ 140737488355328 ∧ 0 < m ∧ N (.sl k M.length 0 m (m * k)) (M ++ [.mem ys])
        | none => False)
    | _, _ => False)) :=
  ⟨by intros; rfl, by intros; rfl, by intros; rfl, by intros; rfl, by intros; rfl, by intros; rfl, by intros; rfl, by intros; unfold callA; rfl, by intros; rfl, by intros; rfl, by intros; rfl, by intros; rfl⟩
theorem ax15 :
    (∀ (E : Env) (T : Tm) (M : List AO) (N : AV → List AO → Prop) (x : Operand) (t : TypeId), callA E T M N (.builtin .clear) [x] [t] = (hold (E.tab t) fun z1 => hold (ev E T x) fun z2 => match z1, z2 with
    | some (.sl e k by' ez), .sl k' o off len g => k = k' ∧ (hold (M[o]?) fun z3 => match z3 with
      | some (.mem cs) => cs.length = g ∧ off + len * k ≤ g ∧ N (.tup []) (M.set o (.mem (putA' cs off (zerosA ez len))))
      | _ => False)
    | _, _ => False)) ∧
    (∀ (E : Env) (M : List AO) (t : TypeId) (N : AV → Prop) (k k' : IntKind) (a b : Int), binA E M .add t (.int k a) (.int k' b) N = (k = k' ∧ someA (intA .add k a b) N)) ∧
    (∀ (E : Env) (M : List AO) (t : TypeId) (N : AV → Prop) (k k' : IntKind) (a b : Int), binA E M .sub t (.int k a) (.int k' b) N = (k = k' ∧ someA (intA .sub k a b) N)) ∧
    (∀ (E : Env) (M : List AO) (t : TypeId) (N : AV → Prop) (k k' : IntKind) (a b : Int), binA E M .mul t (.int k a) (.int k' b) N = (k = k' ∧ someA (intA .mul k a b) N)) ∧
    (∀ (E : Env) (M : List AO) (t : TypeId) (N : AV → Prop) (k k' : IntKind) (a b : Int), binA E M .eql t (.int k a) (.int k' b) N = (k = k' ∧ someA (intA .eql k a b) N)) ∧
    (∀ (E : Env) (M : List AO) (t : TypeId) (N : AV → Prop) (k k' : IntKind) (a b : Int), binA E M .neq t (.int k a) (.int k' b) N = (k = k' ∧ someA (intA .neq k a b) N)) ∧
    (∀ (E : Env) (M : List AO) (t : TypeId) (N : AV → Prop) (k k' : IntKind) (a b : Int), binA E M .lss t (.int k a) (.int k' b) N = (k = k' ∧ someA (intA .lss k a b) N)) ∧
    (∀ (E : Env) (M : List AO) (t : TypeId) (N : AV → Prop) (k k' : IntKind) (a b : Int), binA E M .leq t (.int k a) (.int k' b) N = (k = k' ∧ someA (intA .leq k a b) N)) ∧
    (∀ (E : Env) (M : List AO) (t : TypeId) (N : AV → Prop) (k k' : IntKind) (a b : Int), binA E M .gtr t (.int k a) (.int k' b) N = (k = k' ∧ someA (intA .gtr k a b) N)) ∧
    (∀ (E : Env) (M : List AO) (t : TypeId) (N : AV → Prop) (k k' : IntKind) (a b : Int), binA E M .geq t (.int k a) (.int k' b) N = (k = k' ∧ someA (intA .geq k a b) N)) ∧
    (∀ (E : Env) (M : List AO) (t : TypeId) (N : AV → Prop) (k k' : IntKind) (a b : Int), binA E M .and t (.int k a) (.int k' b) N = (k = k' ∧ someA (intA .and k a b) N)) ∧
    (∀ (E : Env) (M : List AO) (t : TypeId) (N : AV → Prop) (k k' : IntKind) (a b : Int), binA E M .or t (.int k a) (.int k' b) N = (k = k' ∧ someA (intA .or k a b) N)) :=
  ⟨by intros; rfl, by intros; rfl, by intros; rfl, by intros; rfl, by intros; rfl, by intros; rfl, by intros; rfl, by intros; rfl, by intros; rfl, by intros; rfl, by intros; rfl, by intros; rfl⟩
theorem ax16 :
    (∀ (E : Env) (M : List AO) (t : TypeId) (N : AV → Prop) (k k' : IntKind) (a b : Int), binA E M .xor t (.int k a) (.int k' b) N = (k = k' ∧ someA (intA .xor k a b) N)) ∧
    (∀ (E : Env) (M : List AO) (t : TypeId) (N : AV → Prop) (k k' : IntKind) (a b : Int), binA E M .quo t (.int k a) (.int k' b) N = (k = k' ∧ b ≠ 0 ∧ N (.int k (k.wrap (a.tdiv b))))) ∧
    (∀ (E : Env) (M : List AO) (t : TypeId) (N : AV → Prop) (k k' : IntKind) (a b : Int), binA E M .rem t (.int k a) (.int k' b) N = (k = k' ∧ b ≠ 0 ∧ N (.int k (a.tmod b)))) ∧
    (∀ (E : Env) (M : List AO) (t : TypeId) (N : AV → Prop) (k k' : IntKind) (a b : Int), binA E M .shl t (.int k a) (.int k' b) N = (0 ≤ b ∧ N (.int k (k.wrap (a * 2 ^ (min b.toNat k.bits)))))) ∧
    (∀ (E : Env) (M : List AO) (t : TypeId) (N : AV → Prop) (k k' : IntKind) (a b : Int), binA E M .shr t (.int k a) (.int k' b) N = (0 ≤ b ∧ N (.int k (a.fdiv (2 ^ (min b.toNat k.bits)))))) ∧
    (∀ (E : Env) (M : List AO) (t : TypeId) (N : AV → Prop) (a b : Bool), binA E M .eql t (.bool a) (.bool b) N = (E.tab t = some .bool ∧ N (.bool (decide (a = b))))) ∧
    (∀ (E : Env) (M : List AO) (t : TypeId) (N : AV → Prop) (a b : Bool), binA E M .neq t (.bool a) (.bool b) N = (E.tab t = some .bool ∧ N (.bool (decide (a ≠ b))))) ∧
    (∀ (E : Env) (M : List AO) (t : TypeId) (N : AV → Prop) (a b : ByteArray), binA E M .add t (.str a) (.str b) N = (a.size + b.size ≤ 9223372036854775807 ∧ N (.str (a ++ b)))) ∧
    (∀ (E : Env) (M : List AO) (t : TypeId) (N : AV → Prop) (a b : ByteArray), binA E M .eql t (.str a) (.str b) N = N (.bool (decide (a = b)))) ∧
    (∀ (E : Env) (M : List AO) (t : TypeId) (N : AV → Prop) (a b : ByteArray), binA E M .neq t (.str a) (.str b) N = N (.bool (!decide (a = b)))) ∧
    (∀ (E : Env) (M : List AO) (t : TypeId) (N : AV → Prop), binA E M .eql t (.nils) .nils N = hold (E.tab t) fun z1 => match z1 with | some (.sl ..) => nilA M (.nils) fun b => N (.bool (b)) | _ => False) ∧
    (∀ (E : Env) (M : List AO) (t : TypeId) (N : AV → Prop) (k : Nat) (xs : List AV), binA E M .eql t (.fz k xs) .nils N = hold (E.tab t) fun z1 => match z1 with | some (.sl ..) => nilA M (.fz k xs) fun b => N (.bool (b)) | _ => False) :=
  ⟨by intros; rfl, by intros; rfl, by intros; rfl, by intros; rfl, by intros; rfl, by intros; rfl, by intros; rfl, by intros; rfl, by intros; rfl, by intros; rfl, by intros; rfl, by intros; rfl⟩
theorem ax17 :
    (∀ (E : Env) (M : List AO) (t : TypeId) (N : AV → Prop) (k o off len g : Nat), binA E M .eql t (.sl k o off len g) .nils N = hold (E.tab t) fun z1 => match z1 with | some (.sl ..) => nilA M (.sl k o off len g) fun b => N (.bool (b)) | _ => False) ∧
    (∀ (E : Env) (M : List AO) (t : TypeId) (N : AV → Prop), binA E M .neq t (.nils) .nils N = hold (E.tab t) fun z1 => match z1 with | some (.sl ..) => nilA M (.nils) fun b => N (.bool (!b)) | _ => False) ∧
    (∀ (E : Env) (M : List AO) (t : TypeId) (N : AV → Prop) (k : Nat) (xs : List AV), binA E M .neq t (.fz k xs) .nils N = hold (E.tab t) fun z1 => match z1 with | some (.sl ..) => nilA M (.fz k xs) fun b => N (.bool (!b)) | _ => False) ∧
    (∀ (E : Env) (M : List AO) (t : TypeId) (N : AV → Prop) (k o off len g : Nat), binA E M .neq t (.sl k o off len g) .nils N = hold (E.tab t) fun z1 => match z1 with | some (.sl ..) => nilA M (.sl k o off len g) fun b => N (.bool (!b)) | _ => False) ∧
    (∀ (E : Env) (M : List AO) (t : TypeId) (N : AV → Prop) (us bs : List AV), binA E M .eql t (.agg us) (.agg bs) N = hold (E.eqs t) fun z1 => hold (eqI us bs) fun z2 => match z1, z2 with | some n, some r => us.length = n ∧ N (.bool r) | _, _ => False) ∧
    (eqI [] [] = some true) ∧
    (∀ (k k' : IntKind) (a b : Int) (xs ys : List AV), eqI (.int k a :: xs) (.int k' b :: ys) = if k = k' then match eqI xs ys with | some r => some (decide (a = b) && r) | none => none else none) ∧
    (∀ a b : Option Bool, (if True then a else b) = a) ∧
    (∀ (M : List AO) (K : Bool → Prop), nilA M .nils K = K true) ∧
    (∀ (M : List AO) (K : Bool → Prop) (k : Nat), nilA M (.fz k []) K = (K true ∧ K false)) ∧
    (∀ (M : List AO) (K : Bool → Prop) (k : Nat) (a : AV) (l : List AV), nilA M (.fz k (a :: l)) K = K false) ∧
    (∀ (M : List AO) (K : Bool → Prop) (k o off len g : Nat), nilA M (.sl k o off len g) K = ((match M[o]? with | some (.mem cs) => cs.length = g | _ => False) ∧ K false)) :=
  ⟨by intros; rfl, by intros; rfl, by intros; rfl, by intros; rfl, by intros; rfl, rfl, by intros; rfl, by intros; simp, by intros; rfl, by intros; rfl, by intros; rfl, by intros; rfl⟩
theorem ax18 :
    (∀ (k : IntKind) (x y : Int), intA .add k x y = some (.int k (k.wrap (x + y)))) ∧
    (∀ (k : IntKind) (x y : Int), intA .sub k x y = some (.int k (k.wrap (x - y)))) ∧
    (∀ (k : IntKind) (x y : Int), intA .mul k x y = some (.int k (k.wrap (x * y)))) ∧
    (∀ (k : IntKind) (x y : Int), intA .eql k x y = some (.bool (decide (x = y)))) ∧
    (∀ (k : IntKind) (x y : Int), intA .neq k x y = some (.bool (decide (x ≠ y)))) ∧
    (∀ (k : IntKind) (x y : Int), intA .lss k x y = some (.bool (decide (x < y)))) ∧
    (∀ (k : IntKind) (x y : Int), intA .leq k x y = some (.bool (decide (x ≤ y)))) ∧
    (∀ (k : IntKind) (x y : Int), intA .gtr k x y = some (.bool (decide (y < x)))) ∧
    (∀ (k : IntKind) (x y : Int), intA .geq k x y = some (.bool (decide (y ≤ x)))) ∧
    (∀ (r : AV) (N : AV → Prop), someA (some r) N = N r) ∧
    (∀ k : IntKind, (k = k) = True) ∧
    (∀ (cs : List AV) (M : List AO), behindA M (.fp cs) = some cs) :=
  ⟨by intros; rfl, by intros; rfl, by intros; rfl, by intros; rfl, by intros; rfl, by intros; rfl, by intros; rfl, by intros; rfl, by intros; rfl, by intros; rfl, by intros; simp, by intros; rfl⟩
theorem ax19 :
    (∀ (M : List AO) (o off g : Nat), behindA M (.ptr o off g) = match M[o]? with | some (.mem cs) => if cs.length = g then some (cs.drop off) else none | _ => none) ∧
    (∀ M : List AO, rdA M .nils = some (0, [])) ∧
    (∀ (M : List AO) (k : Nat) (xs : List AV), rdA M (.fz k xs) = some (xs.length, flat xs)) ∧
    (∀ (M : List AO) (k o off len g : Nat), rdA M (.sl k o off len g) = match M[o]? with | some (.mem cs) => if cs.length = g then some (len, (cs.drop off).take (len * k)) else none | _ => none) ∧
    (∀ (d : TD) (cs : List AV), loadA d cs = if d.isAgg = true then (if d.size ≤ cs.length then some (.agg (cs.take d.size)) else none) else cs[0]?) ∧
    (∀ a b : Option AV, (if true = true then a else b) = a) ∧
    (∀ a b : Option AV, (if false = true then a else b) = b) ∧
    (∀ a b : AV, (if True then a else b) = a) ∧
    (∀ a b : AV, (if False then a else b) = b) ∧
    (∀ a b : Option AV, (if True then a else b) = a) ∧
    (∀ a b : Option AV, (if False then a else b) = b) ∧
    (∀ a b : Option (List AV), (if True then a else b) = a) :=
  ⟨by intros; rfl, by intros; rfl, by intros; rfl, by intros; rfl, by intros; rfl, by intros; simp, by intros; simp, by intros; simp, by intros; simp, by intros; simp, by intros; simp, by intros; simp⟩
theorem ax20 :
    (∀ a b : Option (List AV), (if False then a else b) = b) ∧
    (∀ a b : Option (Nat × List AV), (if True then a else b) = a) ∧
    (∀ a b : Option (Nat × List AV), (if False then a else b) = b) ∧
    (∀ (E : Env) (T : Tm) (d : Int), bdA E T none d = some d) ∧
    (∀ (E : Env) (T : Tm) (y : Operand) (d : Int), bdA E T (some y) d = match ev E T y with | .int _ n => some n | _ => none) ∧
    (∀ (M L : List AO) (k : Nat), (M ++ L)[M.length + k]? = L[k]?) ∧
    (∀ (M L : List AO), (M ++ L)[M.length]? = L[0]?) ∧
    (∀ (M L : List AO) (k : Nat) (x : AO), (M ++ L).set (M.length + k) x = M ++ L.set k x) ∧
    (∀ (M L : List AO) (x : AO), (M ++ L).set M.length x = M ++ L.set 0 x) ∧
    (∀ (M L K : List AO), (M ++ L) ++ K = M ++ (L ++ K)) ∧
    (∀ (M L : List AO), (M ++ L).length = M.length + L.length) ∧
    (∀ (M : List AO) (o : Nat) (x : AO), (M.set o x).length = M.length) :=
  ⟨by intros; simp, by intros; simp, by intros; simp, by intros; rfl, by intros; rfl, by intro M L k; rw [List.getElem?_append_right (by omega)]; congr 1; omega, by intro M L; rw [List.getElem?_append_right (by omega)]; congr 1; omega, by intro M L k x; rw [List.set_append_right _ _ (by omega)]; congr 2; omega, by intro M L x; rw [List.set_append_right _ _ (by omega)]; congr 2; omega, by intros; simp, by intros; simp, by intros; simp⟩
theorem ax21 :
    (∀ n : Nat, n + 0 = n) ∧
    (∀ n : Nat, 0 + n = n) ∧
    (∀ a b c : Nat, a + b + c = a + (b + c)) ∧
    (∀ n : Nat, n * 1 = n) ∧
    (∀ (cs : List AV) (x : AV), (putA' cs 0 [x]) = match cs with | [] => [x] | _ :: r => x :: r) ∧
    (∀ (a x y : AV) (cs xs : List AV), putA' (a :: cs) 0 (x :: y :: xs) = x :: putA' cs 0 (y :: xs)) ∧
    (∀ (a : AV) (cs xs : List AV) (n : Nat), putA' (a :: cs) (n + 1) xs = a :: putA' cs n xs) ∧
    (∀ (ez : List Value), zerosA ez 0 = []) ∧
    (∀ (ez : List Value) (n : Nat), zerosA ez (n + 1) = ez.map ofV ++ zerosA ez n) ∧
    (∀ (place : Nat → Option (Nat × Nat)) (cells : List AV), fillA place cells [] = some cells) ∧
    (∀ (place : Nat → Option (Nat × Nat)) (cells : List AV) (i : Nat) (a : AV) (rest : List (Nat × AV)), fillA place cells ((i, a) :: rest) = match place i with | none => none | some (off, size) => if a.whole = true ∧ a.cells.length = size ∧ off + size ≤ cells.length then fillA place (putA' cells off a.cells) rest else none) ∧
    (∀ (E : Env) (M : List AO) (T : Tm), resA E M T [] = some []) :=
  ⟨by intros; rfl, by intros; simp, by intros; omega, by intros; simp, by intro cs x; cases cs <;> simp [putA'], by intro a x y cs xs; simp [putA'], by intro a cs xs n; simp only [putA', List.take_succ_cons, List.cons_append]; congr 2; rw [show n + 1 + xs.length = (n + xs.length) + 1 from by omega, List.drop_succ_cons], by intros; rfl, by intro ez n; simp [zerosA, List.replicate_succ], by intros; rfl, by intros; rfl, by intros; rfl⟩
theorem ax22 :
    (∀ (E : Env) (M : List AO) (T : Tm) (t : Tmp) (l : List ResultVar), resA E M T (.tmp t :: l) = match resA E M T l with | some rs => some (T t :: rs) | none => none) ∧
    (∀ (E : Env) (M : List AO) (T : Tm) (a : Tmp) (t : TypeId) (l : List ResultVar), resA E M T (.cell a t :: l) = match E.tab t, behindA M (T a) with | some d, some cs => (match loadA d cs, resA E M T l with | some r, some rs => some (r :: rs) | _, _ => none) | _, _ => none) ∧
    (∀ (E : Env), placesA E [] = []) ∧
    (∀ (E : Env) (a : Nat) (t : TypeId) (l : List (Nat × TypeId)), placesA E ((a, t) :: l) = (a, match E.tab t with | some d => d.size | none => 0) :: placesA E l) ∧
    (∀ (a : Nat × Nat) (l : List (Nat × Nat)), (a :: l)[0]? = some a) ∧
    (∀ (a : Nat × Nat) (l : List (Nat × Nat)) (n : Nat), (a :: l)[n + 1]? = l[n]?) ∧
    (∀ (p : Nat × TypeId → Bool), ([] : List (Nat × TypeId)).all p = true) ∧
    (∀ (p : Nat × TypeId → Bool) (a : Nat × TypeId) (l : List (Nat × TypeId)), (a :: l).all p = (p a && l.all p)) ∧
    (∀ d : TD, (some d).isSome = true) ∧
    (∀ a : AV, packA [a] = a) ∧
    (packA [] = .tup []) ∧
    (∀ (a b : AV) (l : List AV), packA (a :: b :: l) = .tup (a :: b :: l)) :=
  ⟨by intros; rfl, by intros; rfl, by intros; rfl, by intros; rfl, by intros; simp, by intros; simp, by intros; rfl, by intros; rfl, by intros; rfl, by intros; rfl, rfl, by intros; rfl⟩
theorem ax : (
    (∀ (next : Tm → List AO → Prop) (Q : Exit → Tm → List AO → Prop) (T : Tm) (M : List AO), thenA next Q .normal T M = next T M) ∧
    (∀ (next : Tm → List AO → Prop) (Q : Exit → Tm → List AO → Prop) (i : Nat) (T : Tm) (M : List AO), thenA next Q (.exit i) T M = Q (.exit i) T M) ∧
    (∀ (next : Tm → List AO → Prop) (Q : Exit → Tm → List AO → Prop) (T : Tm) (M : List AO), thenA next Q .ret T M = Q .ret T M) ∧
    (∀ (i : Nat) (Q : Exit → Tm → List AO → Prop) (T : Tm) (M : List AO), inBlockA i Q .normal T M = Q .normal T M) ∧
    (∀ (i : Nat) (Q : Exit → Tm → List AO → Prop) (T : Tm) (M : List AO), inBlockA i Q .ret T M = Q .ret T M) ∧
    (∀ (i j : Nat) (Q : Exit → Tm → List AO → Prop) (T : Tm) (M : List AO), inBlockA i Q (.exit j) T M = if j = i then Q .normal T M else Q (.exit j) T M) ∧
    (∀ p q : Prop, (if True then p else q) = p) ∧
    (∀ p q : Prop, (if False then p else q) = q) ∧
    (∀ sz d : Nat, fits sz (some d) = (d < sz)) ∧
    (∀ sz : Nat, fits sz none = True) ∧
    (∀ (T : Tm) (d : Nat) (r : AV), putA T (some d) r = updA T d r) ∧
    (∀ (T : Tm) (r : AV), putA T none r = T)) ∧ (
    (∀ (E : Env) (T : Tm) (t : Nat), ev E T (.tmp t) = T t) ∧
    (∀ (E : Env) (T : Tm) (v : Value), ev E T (.const v) = ofZ v) ∧
    (∀ (E : Env) (T : Tm) (f : Nat), ev E T (.func f) = .fn f []) ∧
    (∀ (E : Env) (T : Tm) (g : Nat), ev E T (.global g) = match E.G g with | some cs => .fp cs | none => .any) ∧
    (∀ (T : Tm) (d : Nat) (r : AV), updA T d r d = r) ∧
    (∀ (T : Tm) (d : Nat) (r : AV) (i : Nat), ¬ i = d → updA T d r i = T i) ∧
    (∀ (l : List AV) (i : Nat), argsT l i = l.getD i .any) ∧
    (∀ (a d : AV) (l : List AV), (a :: l).getD 0 d = a) ∧
    (∀ (a d : AV) (l : List AV) (n : Nat), (a :: l).getD (n + 1) d = l.getD n d) ∧
    (∀ (d : AV) (n : Nat), ([] : List AV).getD n d = d) ∧
    (∀ (l : List AV), l.drop 0 = l) ∧
    (∀ (a : AV) (l : List AV) (n : Nat), (a :: l).drop (n + 1) = l.drop n)) ∧ (
    (∀ (a : AV) (l : List AV), (a :: l)[0]? = some a) ∧
    (∀ (a : AV) (l : List AV) (n : Nat), (a :: l)[n + 1]? = l[n]?) ∧
    (∀ (a : AV) (l : List AV) (n : Nat), (a :: l).take (n + 1) = a :: l.take n) ∧
    (∀ (l : List AV), l.take 0 = []) ∧
    (∀ (a b : AV) (l : List AV), (a :: l).set 0 b = b :: l) ∧
    (∀ (a b : AV) (l : List AV) (n : Nat), (a :: l).set (n + 1) b = a :: l.set n b) ∧
    (∀ (a b : AO) (l : List AO), (a :: l).set 0 b = b :: l) ∧
    (∀ (a b : AO) (l : List AO) (n : Nat), (a :: l).set (n + 1) b = a :: l.set n b) ∧
    (∀ (a : AO) (l : List AO), (a :: l)[0]? = some a) ∧
    (∀ (a : AO) (l : List AO) (n : Nat), (a :: l)[n + 1]? = l[n]?) ∧
    (∀ (l : List AV), [] ++ l = l) ∧
    (∀ (a : AV) (l m : List AV), (a :: l) ++ m = a :: (l ++ m))) ∧ (
    (∀ (l : List AO), [] ++ l = l) ∧
    (∀ (a : AO) (l m : List AO), (a :: l) ++ m = a :: (l ++ m)) ∧
    (∀ (a : AV) (l : List AV), (a :: l).length = l.length + 1) ∧
    (([] : List AV).length = 0) ∧
    (∀ (a : AO) (l : List AO), (a :: l).length = l.length + 1) ∧
    (([] : List AO).length = 0) ∧
    (∀ (f : Operand → AV), ([] : List Operand).map f = []) ∧
    (∀ (f : Operand → AV) (x : Operand) (l : List Operand), (x :: l).map f = f x :: l.map f) ∧
    (∀ (f : Value → AV), ([] : List Value).map f = []) ∧
    (∀ (f : Value → AV) (x : Value) (l : List Value), (x :: l).map f = f x :: l.map f) ∧
    (∀ (f : Oper → Option Tmp), ([] : List Oper).map f = []) ∧
    (∀ (f : Oper → Option Tmp) (x : Oper) (l : List Oper), (x :: l).map f = f x :: l.map f)) ∧ (
    (∀ (f : Nat × Operand → Nat × AV), ([] : List (Nat × Operand)).map f = []) ∧
    (∀ (f : Nat × Operand → Nat × AV) (x : Nat × Operand) (l : List (Nat × Operand)), (x :: l).map f = f x :: l.map f) ∧
    (∀ (a : Option Tmp) (l : List (Option Tmp)), (a :: l)[0]? = some a) ∧
    (∀ (a : Option Tmp) (l : List (Option Tmp)) (n : Nat), (a :: l)[n + 1]? = l[n]?) ∧
    (∀ (a : Nat × TypeId) (l : List (Nat × TypeId)), (a :: l)[0]? = some a) ∧
    (∀ (a : Nat × TypeId) (l : List (Nat × TypeId)) (n : Nat), (a :: l)[n + 1]? = l[n]?) ∧
    (∀ (E : Env) (sz : Nat) (ds : List (Option Tmp)) (Q : Tm → List AO → Prop) (T : Tm) (M : List AO), alA E sz ds Q [] T M = Q T M) ∧
    (∀ (E : Env) (sz : Nat) (ds : List (Option Tmp)) (Q : Tm → List AO → Prop) (dst : Option Tmp) (op : Op) (ty : TypeId) (pos : String) (after : Array Edge) (rest : List Oper) (T : Tm) (M : List AO), alA E sz ds Q (⟨dst, op, ty, pos, after, none⟩ :: rest) T M = (fits sz dst ∧ opA E T M (contA E sz ds Q rest T dst) op)) ∧
    (∀ (E : Env) (sz : Nat) (ds : List (Option Tmp)) (Q : Tm → List AO → Prop) (dst : Option Tmp) (op : Op) (ty : TypeId) (pos : String) (after : Array Edge) (g : Nat × Bool) (rest : List Oper) (T : Tm) (M : List AO), alA E sz ds Q (⟨dst, op, ty, pos, after, some g⟩ :: rest) T M = (fits sz dst ∧ gA (guardA ds T (some g)) (opA E T M (contA E sz ds Q rest T dst) op) (alA E sz ds Q rest (putA T dst .any) M))) ∧
    (∀ p q : Prop, gA (some true) p q = p) ∧
    (∀ p q : Prop, gA (some false) p q = q) ∧
    (∀ (ds : List (Option Tmp)) (T : Tm) (j : Nat) (want : Bool), guardA ds T (some (j, want)) = match ds[j]? with | some (some d) => (match T d with | .bool b => some (b == want) | _ => none) | _ => none)) ∧ (
    (∀ b : Bool, (b == true) = b) ∧
    (∀ b : Bool, (b == false) = !b) ∧
    ((!true) = false) ∧
    ((!false) = true) ∧
    (∀ x y : AV, (if true = true then x else y) = x) ∧
    (∀ x y : AV, (if false = true then x else y) = y) ∧
    (∀ (b x y : Bool), (if b = true then AV.bool x else AV.bool y) = AV.bool (bif b then x else y)) ∧
    (∀ (b : Bool) (k : IntKind) (x y : Int), (if b = true then AV.int k x else AV.int k y) = AV.int k (if b = true then x else y)) ∧
    (∀ b : Bool, (bif b then true else false) = b) ∧
    (∀ b x : Bool, (bif b then x else false) = (b && x)) ∧
    (∀ b x : Bool, (bif b then true else x) = (b || x)) ∧
    (∀ (p : Prop), (True ∧ p) = p)) ∧ (
    (∀ (p : Prop), (False ∧ p) = False) ∧
    (∀ (p : Prop), (p ∧ True) = p) ∧
    (∀ cs : List AV, (AV.agg cs).cells = cs) ∧
    (∀ b : Bool, AV.cells (.bool b) = [.bool b]) ∧
    (∀ b : Bool, AV.whole (.bool b) = true) ∧
    (∀ b : Bool, AV.one (.bool b) = true) ∧
    (∀ (k : IntKind) (n : Int), AV.cells (.int k n) = [.int k n]) ∧
    (∀ (k : IntKind) (n : Int), AV.whole (.int k n) = true) ∧
    (∀ (k : IntKind) (n : Int), AV.one (.int k n) = true) ∧
    (∀ s : ByteArray, AV.cells (.str s) = [.str s]) ∧
    (∀ s : ByteArray, AV.whole (.str s) = true) ∧
    (∀ s : ByteArray, AV.one (.str s) = true)) ∧ (
    (∀ o f g : Nat, AV.cells (.ptr o f g) = [.ptr o f g]) ∧
    (∀ o f g : Nat, AV.whole (.ptr o f g) = true) ∧
    (∀ o f g : Nat, AV.one (.ptr o f g) = true) ∧
    (∀ k o f l g : Nat, AV.cells (.sl k o f l g) = [.sl k o f l g]) ∧
    (∀ k o f l g : Nat, AV.whole (.sl k o f l g) = true) ∧
    (∀ k o f l g : Nat, AV.one (.sl k o f l g) = true) ∧
    (∀ (k : Nat) (xs : List AV), AV.cells (.fz k xs) = [.fz k xs]) ∧
    (∀ (k : Nat) (xs : List AV), AV.whole (.fz k xs) = true) ∧
    (∀ (k : Nat) (xs : List AV), AV.one (.fz k xs) = true) ∧
    (∀ (f : FuncId) (cs : List AV), AV.cells (.fn f cs) = [.fn f cs]) ∧
    (∀ (f : FuncId) (cs : List AV), AV.whole (.fn f cs) = true) ∧
    (∀ (f : FuncId) (cs : List AV), AV.one (.fn f cs) = true)) ∧ (
    (∀ cs : List AV, AV.cells (.fp cs) = [.fp cs]) ∧
    (∀ cs : List AV, AV.whole (.fp cs) = true) ∧
    (∀ cs : List AV, AV.one (.fp cs) = true) ∧
    (AV.cells .nilp = [.nilp]) ∧
    (AV.whole .nilp = true) ∧
    (AV.one .nilp = true) ∧
    (AV.cells .nili = [.nili]) ∧
    (AV.whole .nili = true) ∧
    (AV.one .nili = true) ∧
    (AV.cells .nilf = [.nilf]) ∧
    (AV.whole .nilf = true) ∧
    (AV.one .nilf = true)) ∧ (
    (AV.cells .nils = [.nils]) ∧
    (AV.whole .nils = true) ∧
    (AV.one .nils = true) ∧
    (AV.cells .ifc = [.ifc]) ∧
    (AV.whole .ifc = true) ∧
    (AV.one .ifc = true) ∧
    (∀ cs : List AV, (AV.agg cs).whole = cs.all AV.one) ∧
    (([] : List AV).all AV.one = true) ∧
    (∀ (a : AV) (l : List AV), (a :: l).all AV.one = (a.one && l.all AV.one)) ∧
    (∀ x : Bool, (true && x) = x) ∧
    (∀ (k : IntKind) (n : Int), ofZ (.int k n) = .int k n) ∧
    (∀ b : Bool, ofZ (.bool b) = .bool b)) ∧ (
    (∀ s : ByteArray, ofZ (.string s) = .str s) ∧
    (ofZ (.slice none 0 0) = .nils) ∧
    (ofZ .nilFunc = .nilf) ∧
    (ofZ .nilIface = .nili) ∧
    (ofZ (.pointer none) = .nilp) ∧
    (∀ cs : List Value, ofZ (.agg cs.toArray) = .agg (cs.map ofV)) ∧
    (∀ (k : IntKind) (n : Int), ofV (.int k n) = .int k n) ∧
    (∀ b : Bool, ofV (.bool b) = .bool b) ∧
    (∀ s : ByteArray, ofV (.string s) = .str s) ∧
    (ofV (.slice none 0 0) = .nils) ∧
    (ofV .nilFunc = .nilf) ∧
    (ofV .nilIface = .nili)) ∧ (
    (ofV (.pointer none) = .nilp) ∧
    (∀ k : IntKind, TD.size (.int k) = 1) ∧
    (∀ k : IntKind, TD.isAgg (.int k) = false) ∧
    (∀ k : IntKind, TD.zero (.int k) = .int k 0) ∧
    (TD.size (.str) = 1) ∧
    (TD.isAgg (.str) = false) ∧
    (TD.zero (.str) = .string ByteArray.empty) ∧
    (TD.size (.bool) = 1) ∧
    (TD.isAgg (.bool) = false) ∧
    (TD.zero (.bool) = .bool false) ∧
    (∀ z : Value, TD.size (.oth z) = 1) ∧
    (∀ z : Value, TD.isAgg (.oth z) = false)) ∧ (
    (∀ z : Value, TD.zero (.oth z) = z) ∧
    (∀ (e k b : Nat) (z : List Value), TD.size (.sl e k b z) = 1) ∧
    (∀ (e k b : Nat) (z : List Value), TD.isAgg (.sl e k b z) = false) ∧
    (∀ (e k b : Nat) (z : List Value), TD.zero (.sl e k b z) = .slice none 0 0) ∧
    (∀ (fs : List (Nat × TypeId)) (s : Nat) (z : List Value), TD.size (.st fs s z) = s) ∧
    (∀ (fs : List (Nat × TypeId)) (s : Nat) (z : List Value), TD.isAgg (.st fs s z) = true) ∧
    (∀ (fs : List (Nat × TypeId)) (s : Nat) (z : List Value), TD.zero (.st fs s z) = .agg z.toArray) ∧
    (∀ (E : Env) (T : Tm) (M : List AO) (N : AV → List AO → Prop) (x : Operand), opA E T M N (.move x) = N (ev E T x) M) ∧
    (∀ (E : Env) (T : Tm) (M : List AO) (N : AV → List AO → Prop) (x : Operand), opA E T M N (.assign x) = N (ev E T x) M) ∧
    (∀ (E : Env) (T : Tm) (M : List AO) (N : AV → List AO → Prop) (x y z : Operand), opA E T M N (.pick x y z) = (hold (ev E T x) fun z1 => match z1 with
    | .bool b => N (if b = true then ev E T y else ev E T z) M
    | _ => False)) ∧
    (∀ (E : Env) (T : Tm) (M : List AO) (N : AV → List AO → Prop) (t : TypeId) (x : Operand), opA E T M N (.box t x) = ((ev E T x).whole = true ∧ N (.ptr M.length 0 (ev E T x).cells.length) (M ++ [.mem (ev E T x).cells]))) ∧
    (∀ (E : Env) (T : Tm) (M : List AO) (N : AV → List AO → Prop) (t : TypeId), opA E T M N (.alloc t) = (hold (E.tab t) fun z1 => match z1 with
    | some d => (ofZ d.zero).whole = true ∧ N (.ptr M.length 0 (ofZ d.zero).cells.length) (M ++ [.mem (ofZ d.zero).cells])
    | none => False))) ∧ (
    (∀ (E : Env) (T : Tm) (M : List AO) (N : AV → List AO → Prop) (t : TypeId) (x : Operand), opA E T M N (.load t x) = (hold (E.tab t) fun z1 => hold (behindA M (ev E T x)) fun z2 => match z1, z2 with
    | some d, some cs => someA (loadA d cs) (atA N M)
    | _, _ => False)) ∧
    (∀ (E : Env) (T : Tm) (M : List AO) (N : AV → List AO → Prop) (t : TypeId) (x y : Operand), opA E T M N (.store t x y) = (hold (E.tab t) fun z1 => hold (ev E T x) fun z2 => match z1, z2 with
    | some d, .ptr o off g => (hold (M[o]?) fun z3 => match z3 with
      | some (.mem cs) => cs.length = g ∧ (ev E T y).whole = true ∧ (ev E T y).cells.length = d.size ∧ off + d.size ≤ g ∧ N .any (M.set o (.mem (putA' cs off (ev E T y).cells)))
      | _ => False)
    | _, _ => False)) ∧
    (∀ (E : Env) (T : Tm) (M : List AO) (N : AV → List AO → Prop) (x : Operand), opA E T M N (.nilCheck x) = ((hold (ev E T x) fun z1 => match z1 with
    | .ptr o _ g => (hold (M[o]?) fun z2 => match z2 with | some (.mem cs) => cs.length = g | _ => False)
    | .fp _ => True
    | _ => False) ∧ N (ev E T x) M)) ∧
    (∀ (E : Env) (T : Tm) (M : List AO) (N : AV → List AO → Prop) (op : BinOp) (t : TypeId) (x y : Operand) (yt : TypeId), opA E T M N (.binOp op t x y yt) = (binA E M op t (ev E T x) (ev E T y) (atA N M))) ∧
    (∀ (E : Env) (T : Tm) (M : List AO) (N : AV → List AO → Prop) (t : TypeId) (x : Operand), opA E T M N (.unOp .not t x) = (hold (ev E T x) fun z1 => match z1 with
    | .bool b => N (.bool (!b)) M
    | _ => False)) ∧
    (∀ (E : Env) (T : Tm) (M : List AO) (N : AV → List AO → Prop) (t : TypeId) (x : Operand), opA E T M N (.unOp .neg t x) = (hold (ev E T x) fun z1 => match z1 with
    | .int k n => N (.int k (k.wrap (0 - n))) M
    | _ => False)) ∧
    (∀ (E : Env) (T : Tm) (M : List AO) (N : AV → List AO → Prop) (src dst : TypeId) (x : Operand), opA E T M N (.convert src dst x) = (hold (E.tab src) fun z1 => hold (E.tab dst) fun z2 => hold (ev E T x) fun z3 => match z1, z2, z3 with
    | some _, some (.int k), .int _ n => N (.int k (k.wrap n)) M
    | _, _, _ => False)) ∧
    (∀ (E : Env) (T : Tm) (M : List AO) (N : AV → List AO → Prop) (f : FuncId) (first caps : Array Operand), opA E T M N (.makeFunc (.func f) first caps) = (first = #[] ∧ N (.fn f (caps.toList.map (ev E T))) M)) ∧
    (∀ (E : Env) (T : Tm) (M : List AO) (N : AV → List AO → Prop) (t : TypeId) (x : Operand) (lo hi : Option Operand), opA E T M N (.slice t x lo hi none) = (hold (E.tab t) fun z1 => hold (ev E T x) fun z2 => match z1, z2 with
    | some (.sl e k by' ez), .fz k' xs => k = k' ∧ (hold (bdA E T lo 0) fun z3 => hold (bdA E T hi xs.length) fun z4 => match z3, z4 with
      | some l, some h => 0 ≤ l ∧ l ≤ h ∧ h ≤ xs.length ∧ N (.fz k ((xs.drop l.toNat).take (h.toNat - l.toNat))) M
      | _, _ => False)
    | some (.sl e k by' ez), .sl k' o off len g => k = k' ∧ (hold (M[o]?) fun z5 => match z5 with | some (.mem cs) => cs.length = g | _ => False) ∧ (hold (bdA E T lo 0) fun z6 => hold (bdA E T hi len) fun z7 => match z6, z7 with
      | some l, some h => 0 ≤ l ∧ l ≤ h ∧ off + h.toNat * k ≤ g ∧ (if off + l.toNat * k < g then N (.sl k o (off + l.toNat * k) (h.toNat - l.toNat) g) M else N (.fz k []) M)
      | _, _ => False)
    | some .str, .str q => (hold (bdA E T lo 0) fun z8 => hold (bdA E T hi q.size) fun z9 => match z8, z9 with
      | some l, some h => 0 ≤ l ∧ l ≤ h ∧ h ≤ q.size ∧ N (.str (q.extract l.toNat h.toNat)) M
      | _, _ => False)
    | _, _ => False)) ∧
    (∀ (E : Env) (T : Tm) (M : List AO) (N : AV → List AO → Prop) (t : TypeId) (x lo hi mx : Operand), opA E T M N (.slice t x (some lo) (some hi) (some mx)) = (hold (E.tab t) fun z1 => hold (ev E T x) fun z2 => match z1, z2 with
    | some (.sl e k by' ez), .sl k' o off len g => k = k' ∧ (hold (M[o]?) fun z3 => match z3 with | some (.mem cs) => cs.length = g | _ => False) ∧ (hold (ev E T lo) fun z4 => hold (ev E T hi) fun z5 => hold (ev E T mx) fun z6 => match z4, z5, z6 with
      | .int _ l, .int _ h, .int _ m => 0 ≤ l ∧ l ≤ h ∧ h ≤ m ∧ off + m.toNat * k ≤ g ∧ N .any M
      | _, _, _ => False)
    | _, _ => False)) ∧
    (∀ (E : Env) (T : Tm) (M : List AO) (N : AV → List AO → Prop) (t : TypeId) (parts : Array (Nat × Operand)), opA E T M N (.build t parts) = (hold (E.tab t) fun z1 => match z1 with
    | some (.st fs size z) => fs.all (fun p => (E.tab p.2).isSome) = true ∧ (hold (fillA (fun i => (placesA E fs)[i]?) (z.map ofV) (parts.toList.map fun p => (p.1, ev E T p.2))) fun z2 => match z2 with
      | some cs => N (.agg cs) M
      | none => False)
    | _ => False)) ∧
    (∀ (E : Env) (T : Tm) (M : List AO) (N : AV → List AO → Prop) (t : TypeId) (x y : Operand), opA E T M N (.makeSlice t x y) = (hold (E.tab t) fun z1 => hold (ev E T x) fun z2 => hold (ev E T y) fun z3 => match z1, z2, z3 with
    | some (.sl e k by' ez), .int _ l, .int _ c => 0 ≤ l ∧ l ≤ c ∧ c * by' ≤ 281474976710656 ∧ N (.sl k M.length 0 l.toNat (c.toNat * k)) (M ++ [.mem (zerosA ez c.toNat)])
    | _, _, _ => False))) ∧ (
    (∀ (E : Env) (T : Tm) (M : List AO) (N : AV → List AO → Prop) (t : TypeId) (x : Operand) (f : Nat), opA E T M N (.fieldAddr t x f) = (hold (E.tab t) fun z1 => match z1 with
    | some (.st fs _ _) => (hold (fs[f]?) fun z2 => match z2 with
      | some (off, ft) => (hold (E.tab ft) fun z3 => match z3 with
        | some d => 0 < d.size ∧ (hold (ev E T x) fun z4 => match z4 with
          | .ptr o off0 g => (hold (M[o]?) fun z5 => match z5 with | some (.mem cs) => cs.length = g | _ => False) ∧ N (.ptr o (off0 + off) g) M
          | .fp cs => N (.fp (cs.drop off)) M
          | _ => False)
        | none => False)
      | none => False)
    | _ => False)) ∧
    (∀ (E : Env) (T : Tm) (M : List AO) (N : AV → List AO → Prop) (t : TypeId) (x : Operand) (f : Nat), opA E T M N (.field t x f) = (hold (E.tab t) fun z1 => hold (ev E T x) fun z2 => match z1, z2 with
    | some (.st fs _ _), .agg cs => (hold (fs[f]?) fun z3 => match z3 with
      | some (off, ft) => (hold (E.tab ft) fun z4 => match z4 with
        | some d => someA (loadA d (cs.drop off)) (atA N M)
        | none => False)
      | none => False)
    | _, _ => False)) ∧
    (∀ (E : Env) (T : Tm) (M : List AO) (N : AV → List AO → Prop) (t : TypeId) (x y : Operand), opA E T M N (.indexAddr t x y) = (hold (E.tab t) fun z1 => hold (ev E T x) fun z2 => hold (ev E T y) fun z3 => match z1, z2, z3 with
    | some (.sl e k by' ez), .sl k' o off len g, .int _ i => k = k' ∧ (hold (M[o]?) fun z4 => match z4 with | some (.mem cs) => cs.length = g | _ => False) ∧ 0 ≤ i ∧ i < len ∧ N (.ptr o (off + i.toNat * k) g) M
    | some (.sl e k by' ez), .fz k' xs, .int _ i => k = k' ∧ 0 ≤ i ∧ i < xs.length ∧ N (.fp (xs.getD i.toNat .any).cells) M
    | _, _, _ => False)) ∧
    (∀ (E : Env) (T : Tm) (M : List AO) (N : AV → List AO → Prop) (t : TypeId) (x y : Operand), opA E T M N (.index t x y) = (hold (E.tab t) fun z1 => hold (ev E T x) fun z2 => hold (ev E T y) fun z3 => match z1, z2, z3 with
    | some .str, .str q, .int _ i => 0 ≤ i ∧ i < q.size ∧ N (.int .u8 ((q.data.getD i.toNat 0).toNat : Int)) M
    | _, _, _ => False)) ∧
    (∀ (E : Env) (T : Tm) (M : List AO) (N : AV → List AO → Prop) (x : Operand) (i : Nat), opA E T M N (.extract x i) = (hold (ev E T x) fun z1 => match z1 with
    | .tup vs => i < vs.length ∧ N (vs.getD i .any) M
    | _ => False)) ∧
    (∀ (E : Env) (T : Tm) (M : List AO) (N : AV → List AO → Prop) (t : TypeId) (len : Nat) (parts : Array (Nat × Operand)), opA E T M N (.buildSlice t len parts) = (hold (E.tab t) fun z1 => match z1 with
    | some (.sl e k by' ez) => len * k ≤ 16777216 ∧ (hold (fillA (fun i => some (i * k, k)) (zerosA ez len) (parts.toList.map fun p => (p.1, ev E T p.2))) fun z2 => match z2 with
      | some cs => N (.sl k M.length 0 len (len * k)) (M ++ [.mem cs])
      | none => False)
    | _ => False)) ∧
    (∀ (E : Env) (T : Tm) (M : List AO) (N : AV → List AO → Prop) (c : Call), opA E T M N (.call c) = (callA E T M N c.callee c.args.toList c.argTypes.toList)) ∧
    (∀ (E : Env) (T : Tm) (M : List AO) (N : AV → List AO → Prop) (f : Operand) (args : List Operand) (ts : List TypeId), callA E T M N (.value f) args ts = hold (ev E T f) fun z1 => match z1 with | .fn g caps => AC E g (args.map (ev E T) ++ caps) M N | _ => False) ∧
    (∀ (E : Env) (T : Tm) (M : List AO) (N : AV → List AO → Prop) (x : Operand) (t : TypeId), callA E T M N (.builtin .len) [x] [t] = (hold (E.tab t) fun z1 => hold (ev E T x) fun z2 => match z1, z2 with
    | some (.sl ..), .nils => N (.int .i64 0) M
    | some (.sl ..), .fz _ xs => N (.int .i64 xs.length) M
    | some .str, .str s => N (.int .i64 s.size) M
    | some (.sl ..), .sl _ o _ len g => (hold (M[o]?) fun z3 => match z3 with | some (.mem cs) => cs.length = g | _ => False) ∧ N (.int .i64 len) M
    | _, _ => False)) ∧
    (∀ (E : Env) (T : Tm) (M : List AO) (N : AV → List AO → Prop) (x y : Operand) (ts : List TypeId), callA E T M N (.builtin .max) [x, y] ts = (hold (ev E T x) fun z1 => hold (ev E T y) fun z2 => match z1, z2 with
    | .int k m, .int k' n => k = k' ∧ N (.int k (if n > m then n else m)) M
    | _, _ => False)) ∧
    (∀ (E : Env) (T : Tm) (M : List AO) (N : AV → List AO → Prop) (x y : Operand) (ts : List TypeId), callA E T M N (.builtin .min) [x, y] ts = (hold (ev E T x) fun z1 => hold (ev E T y) fun z2 => match z1, z2 with
    | .int k m, .int k' n => k = k' ∧ N (.int k (if n < m then n else m)) M
    | _, _ => False)) ∧
    (∀ (E : Env) (T : Tm) (M : List AO) (N : AV → List AO → Prop) (x y : Operand) (t t' : TypeId), callA E T M N (.builtin .append) [x, y] [t, t'] = (t = t' ∧ hold (E.tab t) fun z1 => hold (ev E T x) fun z2 => match z1, z2 with
    | some (.sl e k by' ez), .sl k' o off len g => k = k' ∧ (hold (M[o]?) fun z3 => match z3 with
      | some (.mem cs) => cs.length = g ∧ (hold (rdA M (ev E T y)) fun z4 => match z4 with
        | some (m, ys) => ys.length = m * k ∧ ys.all AV.one = true ∧ (if off = 0 ∧ len * k = g then (len + m) * by' ≤ 140737488355328 ∧ N (.sl k o 0 (len + m) (g + m * k)) (M.set o (.mem (cs ++ ys)))
          else off + (len + m) * k ≤ g ∧ N (.sl k o off (len + m) g) (M.set o (.mem (putA' cs (off + len * k) ys))))
        | none => False)
      | _ => False)
    | some (.sl e k by' ez), .nils => (hold (rdA M (ev E T y)) fun z5 => match z5 with
        | some (m, ys) => ys.length = m * k ∧ ys.all AV.one = true ∧ m * by' ≤ 140737488355328 ∧ 0 < m ∧ N (.sl k M.length 0 m (m * k)) (M ++ [.mem ys])
        | none => False)
    | _, _ => False))) ∧ (
    (∀ (E : Env) (T : Tm) (M : List AO) (N : AV → List AO → Prop) (x : Operand) (t : TypeId), callA E T M N (.builtin .clear) [x] [t] = (hold (E.tab t) fun z1 => hold (ev E T x) fun z2 => match z1, z2 with
    | some (.sl e k by' ez), .sl k' o off len g => k = k' ∧ (hold (M[o]?) fun z3 => match z3 with
      | some (.mem cs) => cs.length = g ∧ off + len * k ≤ g ∧ N (.tup []) (M.set o (.mem (putA' cs off (zerosA ez len))))
      | _ => False)
    | _, _ => False)) ∧
    (∀ (E : Env) (M : List AO) (t : TypeId) (N : AV → Prop) (k k' : IntKind) (a b : Int), binA E M .add t (.int k a) (.int k' b) N = (k = k' ∧ someA (intA .add k a b) N)) ∧
    (∀ (E : Env) (M : List AO) (t : TypeId) (N : AV → Prop) (k k' : IntKind) (a b : Int), binA E M .sub t (.int k a) (.int k' b) N = (k = k' ∧ someA (intA .sub k a b) N)) ∧
    (∀ (E : Env) (M : List AO) (t : TypeId) (N : AV → Prop) (k k' : IntKind) (a b : Int), binA E M .mul t (.int k a) (.int k' b) N = (k = k' ∧ someA (intA .mul k a b) N)) ∧
    (∀ (E : Env) (M : List AO) (t : TypeId) (N : AV → Prop) (k k' : IntKind) (a b : Int), binA E M .eql t (.int k a) (.int k' b) N = (k = k' ∧ someA (intA .eql k a b) N)) ∧
    (∀ (E : Env) (M : List AO) (t : TypeId) (N : AV → Prop) (k k' : IntKind) (a b : Int), binA E M .neq t (.int k a) (.int k' b) N = (k = k' ∧ someA (intA .neq k a b) N)) ∧
    (∀ (E : Env) (M : List AO) (t : TypeId) (N : AV → Prop) (k k' : IntKind) (a b : Int), binA E M .lss t (.int k a) (.int k' b) N = (k = k' ∧ someA (intA .lss k a b) N)) ∧
    (∀ (E : Env) (M : List AO) (t : TypeId) (N : AV → Prop) (k k' : IntKind) (a b : Int), binA E M .leq t (.int k a) (.int k' b) N = (k = k' ∧ someA (intA .leq k a b) N)) ∧
    (∀ (E : Env) (M : List AO) (t : TypeId) (N : AV → Prop) (k k' : IntKind) (a b : Int), binA E M .gtr t (.int k a) (.int k' b) N = (k = k' ∧ someA (intA .gtr k a b) N)) ∧
    (∀ (E : Env) (M : List AO) (t : TypeId) (N : AV → Prop) (k k' : IntKind) (a b : Int), binA E M .geq t (.int k a) (.int k' b) N = (k = k' ∧ someA (intA .geq k a b) N)) ∧
    (∀ (E : Env) (M : List AO) (t : TypeId) (N : AV → Prop) (k k' : IntKind) (a b : Int), binA E M .and t (.int k a) (.int k' b) N = (k = k' ∧ someA (intA .and k a b) N)) ∧
    (∀ (E : Env) (M : List AO) (t : TypeId) (N : AV → Prop) (k k' : IntKind) (a b : Int), binA E M .or t (.int k a) (.int k' b) N = (k = k' ∧ someA (intA .or k a b) N))) ∧ (
    (∀ (E : Env) (M : List AO) (t : TypeId) (N : AV → Prop) (k k' : IntKind) (a b : Int), binA E M .xor t (.int k a) (.int k' b) N = (k = k' ∧ someA (intA .xor k a b) N)) ∧
    (∀ (E : Env) (M : List AO) (t : TypeId) (N : AV → Prop) (k k' : IntKind) (a b : Int), binA E M .quo t (.int k a) (.int k' b) N = (k = k' ∧ b ≠ 0 ∧ N (.int k (k.wrap (a.tdiv b))))) ∧
    (∀ (E : Env) (M : List AO) (t : TypeId) (N : AV → Prop) (k k' : IntKind) (a b : Int), binA E M .rem t (.int k a) (.int k' b) N = (k = k' ∧ b ≠ 0 ∧ N (.int k (a.tmod b)))) ∧
    (∀ (E : Env) (M : List AO) (t : TypeId) (N : AV → Prop) (k k' : IntKind) (a b : Int), binA E M .shl t (.int k a) (.int k' b) N = (0 ≤ b ∧ N (.int k (k.wrap (a * 2 ^ (min b.toNat k.bits)))))) ∧
    (∀ (E : Env) (M : List AO) (t : TypeId) (N : AV → Prop) (k k' : IntKind) (a b : Int), binA E M .shr t (.int k a) (.int k' b) N = (0 ≤ b ∧ N (.int k (a.fdiv (2 ^ (min b.toNat k.bits)))))) ∧
    (∀ (E : Env) (M : List AO) (t : TypeId) (N : AV → Prop) (a b : Bool), binA E M .eql t (.bool a) (.bool b) N = (E.tab t = some .bool ∧ N (.bool (decide (a = b))))) ∧
    (∀ (E : Env) (M : List AO) (t : TypeId) (N : AV → Prop) (a b : Bool), binA E M .neq t (.bool a) (.bool b) N = (E.tab t = some .bool ∧ N (.bool (decide (a ≠ b))))) ∧
    (∀ (E : Env) (M : List AO) (t : TypeId) (N : AV → Prop) (a b : ByteArray), binA E M .add t (.str a) (.str b) N = (a.size + b.size ≤ 9223372036854775807 ∧ N (.str (a ++ b)))) ∧
    (∀ (E : Env) (M : List AO) (t : TypeId) (N : AV → Prop) (a b : ByteArray), binA E M .eql t (.str a) (.str b) N = N (.bool (decide (a = b)))) ∧
    (∀ (E : Env) (M : List AO) (t : TypeId) (N : AV → Prop) (a b : ByteArray), binA E M .neq t (.str a) (.str b) N = N (.bool (!decide (a = b)))) ∧
    (∀ (E : Env) (M : List AO) (t : TypeId) (N : AV → Prop), binA E M .eql t (.nils) .nils N = hold (E.tab t) fun z1 => match z1 with | some (.sl ..) => nilA M (.nils) fun b => N (.bool (b)) | _ => False) ∧
    (∀ (E : Env) (M : List AO) (t : TypeId) (N : AV → Prop) (k : Nat) (xs : List AV), binA E M .eql t (.fz k xs) .nils N = hold (E.tab t) fun z1 => match z1 with | some (.sl ..) => nilA M (.fz k xs) fun b => N (.bool (b)) | _ => False)) ∧ (
    (∀ (E : Env) (M : List AO) (t : TypeId) (N : AV → Prop) (k o off len g : Nat), binA E M .eql t (.sl k o off len g) .nils N = hold (E.tab t) fun z1 => match z1 with | some (.sl ..) => nilA M (.sl k o off len g) fun b => N (.bool (b)) | _ => False) ∧
    (∀ (E : Env) (M : List AO) (t : TypeId) (N : AV → Prop), binA E M .neq t (.nils) .nils N = hold (E.tab t) fun z1 => match z1 with | some (.sl ..) => nilA M (.nils) fun b => N (.bool (!b)) | _ => False) ∧
    (∀ (E : Env) (M : List AO) (t : TypeId) (N : AV → Prop) (k : Nat) (xs : List AV), binA E M .neq t (.fz k xs) .nils N = hold (E.tab t) fun z1 => match z1 with | some (.sl ..) => nilA M (.fz k xs) fun b => N (.bool (!b)) | _ => False) ∧
    (∀ (E : Env) (M : List AO) (t : TypeId) (N : AV → Prop) (k o off len g : Nat), binA E M .neq t (.sl k o off len g) .nils N = hold (E.tab t) fun z1 => match z1 with | some (.sl ..) => nilA M (.sl k o off len g) fun b => N (.bool (!b)) | _ => False) ∧
    (∀ (E : Env) (M : List AO) (t : TypeId) (N : AV → Prop) (us bs : List AV), binA E M .eql t (.agg us) (.agg bs) N = hold (E.eqs t) fun z1 => hold (eqI us bs) fun z2 => match z1, z2 with | some n, some r => us.length = n ∧ N (.bool r) | _, _ => False) ∧
    (eqI [] [] = some true) ∧
    (∀ (k k' : IntKind) (a b : Int) (xs ys : List AV), eqI (.int k a :: xs) (.int k' b :: ys) = if k = k' then match eqI xs ys with | some r => some (decide (a = b) && r) | none => none else none) ∧
    (∀ a b : Option Bool, (if True then a else b) = a) ∧
    (∀ (M : List AO) (K : Bool → Prop), nilA M .nils K = K true) ∧
    (∀ (M : List AO) (K : Bool → Prop) (k : Nat), nilA M (.fz k []) K = (K true ∧ K false)) ∧
    (∀ (M : List AO) (K : Bool → Prop) (k : Nat) (a : AV) (l : List AV), nilA M (.fz k (a :: l)) K = K false) ∧
    (∀ (M : List AO) (K : Bool → Prop) (k o off len g : Nat), nilA M (.sl k o off len g) K = ((match M[o]? with | some (.mem cs) => cs.length = g | _ => False) ∧ K false))) ∧ (
    (∀ (k : IntKind) (x y : Int), intA .add k x y = some (.int k (k.wrap (x + y)))) ∧
    (∀ (k : IntKind) (x y : Int), intA .sub k x y = some (.int k (k.wrap (x - y)))) ∧
    (∀ (k : IntKind) (x y : Int), intA .mul k x y = some (.int k (k.wrap (x * y)))) ∧
    (∀ (k : IntKind) (x y : Int), intA .eql k x y = some (.bool (decide (x = y)))) ∧
    (∀ (k : IntKind) (x y : Int), intA .neq k x y = some (.bool (decide (x ≠ y)))) ∧
    (∀ (k : IntKind) (x y : Int), intA .lss k x y = some (.bool (decide (x < y)))) ∧
    (∀ (k : IntKind) (x y : Int), intA .leq k x y = some (.bool (decide (x ≤ y)))) ∧
    (∀ (k : IntKind) (x y : Int), intA .gtr k x y = some (.bool (decide (y < x)))) ∧
    (∀ (k : IntKind) (x y : Int), intA .geq k x y = some (.bool (decide (y ≤ x)))) ∧
    (∀ (r : AV) (N : AV → Prop), someA (some r) N = N r) ∧
    (∀ k : IntKind, (k = k) = True) ∧
    (∀ (cs : List AV) (M : List AO), behindA M (.fp cs) = some cs)) ∧ (
    (∀ (M : List AO) (o off g : Nat), behindA M (.ptr o off g) = match M[o]? with | some (.mem cs) => if cs.length = g then some (cs.drop off) else none | _ => none) ∧
    (∀ M : List AO, rdA M .nils = some (0, [])) ∧
    (∀ (M : List AO) (k : Nat) (xs : List AV), rdA M (.fz k xs) = some (xs.length, flat xs)) ∧
    (∀ (M : List AO) (k o off len g : Nat), rdA M (.sl k o off len g) = match M[o]? with | some (.mem cs) => if cs.length = g then some (len, (cs.drop off).take (len * k)) else none | _ => none) ∧
    (∀ (d : TD) (cs : List AV), loadA d cs = if d.isAgg = true then (if d.size ≤ cs.length then some (.agg (cs.take d.size)) else none) else cs[0]?) ∧
    (∀ a b : Option AV, (if true = true then a else b) = a) ∧
    (∀ a b : Option AV, (if false = true then a else b) = b) ∧
    (∀ a b : AV, (if True then a else b) = a) ∧
    (∀ a b : AV, (if False then a else b) = b) ∧
    (∀ a b : Option AV, (if True then a else b) = a) ∧
    (∀ a b : Option AV, (if False then a else b) = b) ∧
    (∀ a b : Option (List AV), (if True then a else b) = a)) ∧ (
    (∀ a b : Option (List AV), (if False then a else b) = b) ∧
    (∀ a b : Option (Nat × List AV), (if True then a else b) = a) ∧
    (∀ a b : Option (Nat × List AV), (if False then a else b) = b) ∧
    (∀ (E : Env) (T : Tm) (d : Int), bdA E T none d = some d) ∧
    (∀ (E : Env) (T : Tm) (y : Operand) (d : Int), bdA E T (some y) d = match ev E T y with | .int _ n => some n | _ => none) ∧
    (∀ (M L : List AO) (k : Nat), (M ++ L)[M.length + k]? = L[k]?) ∧
    (∀ (M L : List AO), (M ++ L)[M.length]? = L[0]?) ∧
    (∀ (M L : List AO) (k : Nat) (x : AO), (M ++ L).set (M.length + k) x = M ++ L.set k x) ∧
    (∀ (M L : List AO) (x : AO), (M ++ L).set M.length x = M ++ L.set 0 x) ∧
    (∀ (M L K : List AO), (M ++ L) ++ K = M ++ (L ++ K)) ∧
    (∀ (M L : List AO), (M ++ L).length = M.length + L.length) ∧
    (∀ (M : List AO) (o : Nat) (x : AO), (M.set o x).length = M.length)) ∧ (
    (∀ n : Nat, n + 0 = n) ∧
    (∀ n : Nat, 0 + n = n) ∧
    (∀ a b c : Nat, a + b + c = a + (b + c)) ∧
    (∀ n : Nat, n * 1 = n) ∧
    (∀ (cs : List AV) (x : AV), (putA' cs 0 [x]) = match cs with | [] => [x] | _ :: r => x :: r) ∧
    (∀ (a x y : AV) (cs xs : List AV), putA' (a :: cs) 0 (x :: y :: xs) = x :: putA' cs 0 (y :: xs)) ∧
    (∀ (a : AV) (cs xs : List AV) (n : Nat), putA' (a :: cs) (n + 1) xs = a :: putA' cs n xs) ∧
    (∀ (ez : List Value), zerosA ez 0 = []) ∧
    (∀ (ez : List Value) (n : Nat), zerosA ez (n + 1) = ez.map ofV ++ zerosA ez n) ∧
    (∀ (place : Nat → Option (Nat × Nat)) (cells : List AV), fillA place cells [] = some cells) ∧
    (∀ (place : Nat → Option (Nat × Nat)) (cells : List AV) (i : Nat) (a : AV) (rest : List (Nat × AV)), fillA place cells ((i, a) :: rest) = match place i with | none => none | some (off, size) => if a.whole = true ∧ a.cells.length = size ∧ off + size ≤ cells.length then fillA place (putA' cells off a.cells) rest else none) ∧
    (∀ (E : Env) (M : List AO) (T : Tm), resA E M T [] = some [])) ∧ (
    (∀ (E : Env) (M : List AO) (T : Tm) (t : Tmp) (l : List ResultVar), resA E M T (.tmp t :: l) = match resA E M T l with | some rs => some (T t :: rs) | none => none) ∧
    (∀ (E : Env) (M : List AO) (T : Tm) (a : Tmp) (t : TypeId) (l : List ResultVar), resA E M T (.cell a t :: l) = match E.tab t, behindA M (T a) with | some d, some cs => (match loadA d cs, resA E M T l with | some r, some rs => some (r :: rs) | _, _ => none) | _, _ => none) ∧
    (∀ (E : Env), placesA E [] = []) ∧
    (∀ (E : Env) (a : Nat) (t : TypeId) (l : List (Nat × TypeId)), placesA E ((a, t) :: l) = (a, match E.tab t with | some d => d.size | none => 0) :: placesA E l) ∧
    (∀ (a : Nat × Nat) (l : List (Nat × Nat)), (a :: l)[0]? = some a) ∧
    (∀ (a : Nat × Nat) (l : List (Nat × Nat)) (n : Nat), (a :: l)[n + 1]? = l[n]?) ∧
    (∀ (p : Nat × TypeId → Bool), ([] : List (Nat × TypeId)).all p = true) ∧
    (∀ (p : Nat × TypeId → Bool) (a : Nat × TypeId) (l : List (Nat × TypeId)), (a :: l).all p = (p a && l.all p)) ∧
    (∀ d : TD, (some d).isSome = true) ∧
    (∀ a : AV, packA [a] = a) ∧
    (packA [] = .tup []) ∧
    (∀ (a b : AV) (l : List AV), packA (a :: b :: l) = .tup (a :: b :: l))) :=
  ⟨ax0, ax1, ax2, ax3, ax4, ax5, ax6, ax7, ax8, ax9, ax10, ax11, ax12, ax13, ax14, ax15, ax16, ax17, ax18, ax19, ax20, ax21, ax22⟩
end Go.Ax
