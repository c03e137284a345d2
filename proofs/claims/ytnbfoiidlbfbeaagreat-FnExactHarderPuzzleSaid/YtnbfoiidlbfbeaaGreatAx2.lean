/- The logic's judgements: calls (AC), one operation (OpOk), lists of operations (AL), code (AW); what the environment tells of types. -/
import Derived.Test.YtnbfoiidlbfbeaaGreatAx1
import Derived.Shelf.Abstract
import Derived.Laws.StructEq
import Derived.WalkSpells
import Derived.Laws.Cells
import Derived.Laws.NewBlocks
import Derived.Laws.NewFold
set_option linter.unusedVariables false
set_option linter.unusedSimpArgs false
namespace Go.Ax
open Go.RowKit (Below)
open Go.Proofs (Enters enters_of)

/-- What is told of a type: its kind, its cells. -/
inductive TD where
  | int (k : IntKind)
  | str
  | bool
  | oth (z : Value)
  | sl (e : TypeId) (k bytes : Nat) (ez : List Value)
  | st (fs : List (Nat × TypeId)) (size : Nat) (z : List Value)
  | ar (n : Nat) (e : TypeId) (k : Nat) (z : List Value)
  deriving Inhabited

def TD.size : TD → Nat
  | .st _ s _ => s
  | .ar n _ k _ => n * k
  | _ => 1
def TD.isAgg : TD → Bool
  | .st .. | .ar .. => true
  | _ => false
def TD.zero : TD → Value
  | .int k => .int k 0
  | .str => .string ByteArray.empty
  | .bool => .bool false
  | .oth z => z
  | .sl .. => .slice none 0 0
  | .st _ _ z => .agg z.toArray
  | .ar _ _ _ z => .agg z.toArray

def InfoIs (P : Program) (t : TypeId) (size : Nat) (z : Value) : Prop := (P.info? t).map (fun i => (i.size, i.zero)) = some (size, some z)
theorem infoIs {P : Program} {t : TypeId} {size : Nat} {z : Value} (h : (P.info? t).map (fun i => (i.size, i.zero)) = some (size, some z)) : InfoIs P t size z := h
def Plain : TypeDesc → Bool
  | .struct _ | .array _ _ => false
  | _ => true

def TDok (P : Program) (t : TypeId) : TD → Prop
  | .int k => P.underlying t = some (.int k) ∧ InfoIs P t 1 (.int k 0)
  | .str => P.underlying t = some .string ∧ InfoIs P t 1 (.string ByteArray.empty)
  | .bool => P.underlying t = some .bool ∧ InfoIs P t 1 (.bool false)
  | .oth z => ((P.underlying t).map Plain = some true ∧ InfoIs P t 1 z) ∧ z.oneCell' = true
  | .sl e k bytes ez => (P.underlying t = some (.slice e) ∧ InfoIs P t 1 (.slice none 0 0)) ∧ (P.info? e).map (fun i => (i.size, i.bytes, i.zero.map (fun z => z.cells.toList))) = some (k, bytes, some ez) ∧ ez.length = k ∧ 0 < k ∧ 0 < bytes ∧ ez.all (fun z => z.oneCell') = true
  | .st fs size z => ((P.underlying t).map (fun d => match d with | .struct fields => some (fields.toList.map fun f => (f.offset, f.type)) | _ => none) = some (some fs) ∧ InfoIs P t size (.agg z.toArray)) ∧ z.length = size
  | .ar n e k z => (P.underlying t = some (.array n e) ∧ InfoIs P t (n * k) (.agg z.toArray)) ∧ (P.info? e).map (fun i => i.size) = some k ∧ z.length = n * k

def isIntT : Option TypeDesc → Bool
  | some (.int _) => true
  | _ => false
/-- A struct type all of whose fields are numbers, one cell each. -/
def EqSt (P : Program) (t : TypeId) (n : Nat) : Prop := P.underlying t = some (.struct (P.fieldsOf t)) ∧ P.stoodInHeld t = false ∧ P.eqGuardType P.depth t = false ∧
  (P.fieldsOf t).toList.map (fun f => (f.name == "_", f.offset, isIntT (P.underlying f.type))) = (List.range n).map fun i => (false, i, true)

structure Env where
  P : Program
  tab : TypeId → Option TD
  eqs : TypeId → Option Nat
  eqok : ∀ t n, eqs t = some n → EqSt P t n
  G : Nat → Option (List AV)
  ok : ∀ t d, tab t = some d → TDok P t d
  cl : ∀ g cs, G g = some cs → ∀ (i : Nat) (a : AV), cs[i]? = some a → Cl 0 a

/-- The abstract memory lies in the heap, and the package's variables that are told hold what is told. -/
structure SimE (E : Env) (c : Ctx) (M : List AO) (h : Array Obj) : Prop where
  sim : Sim c M h
  glob : ∀ g cs, E.G g = some cs → R c M h (.fp cs) (.pointer (some ⟨g, 0, none⟩))
theorem SimE.mk' {E : Env} {c c' : Ctx} {M M' : List AO} {h h' : Array Obj} (s : SimE E c M h) (fr : Fr c M h c' M' h') (s' : Sim c' M' h') : SimE E c' M' h' :=
  ⟨s', fun g cs e => (s.glob g cs e).mono fr⟩

structure WF (w w' : World) : Prop where
  os : w'.os = w.os
  tape : w'.tape = w.tape
  output : w'.output = w.output
  size : w.heap.size ≤ w'.heap.size
theorem WF.refl (w : World) : WF w w := ⟨rfl, rfl, rfl, Nat.le_refl _⟩
theorem WF.trans {a b c : World} (h : WF a b) (k : WF b c) : WF a c := ⟨k.os.trans h.os, k.tape.trans h.tape, k.output.trans h.output, Nat.le_trans h.size k.size⟩

/-- Values told one by one. -/
def Rl (c : Ctx) (M : List AO) (h : Array Obj) (T : List AV) (l : List Value) : Prop :=
  T.length = l.length ∧ ∀ (i : Nat) (a : AV), T[i]? = some a → ∃ u, l[i]? = some u ∧ R c M h a u
theorem Rl.mono {c c' : Ctx} {M M' : List AO} {h h' : Array Obj} (fr : Fr c M h c' M' h') {T : List AV} {l : List Value} (r : Rl c M h T l) : Rl c' M' h' T l :=
  ⟨r.1, fun i a hi => by obtain ⟨u, hu, hr⟩ := r.2 i a hi; exact ⟨u, hu, hr.mono fr⟩⟩
theorem Rl.nil (c : Ctx) (M : List AO) (h : Array Obj) : Rl c M h [] [] := ⟨rfl, fun i a hi => by simp at hi⟩
theorem Rl.cons {c : Ctx} {M : List AO} {h : Array Obj} {a : AV} {v : Value} {T : List AV} {l : List Value} (r : R c M h a v) (rs : Rl c M h T l) : Rl c M h (a :: T) (v :: l) :=
  ⟨by simp [rs.1], fun i b hi => by
    cases i with
    | zero => simp at hi; subst hi; exact ⟨v, by simp, r⟩
    | succ i => simp at hi; obtain ⟨u, hu, hr⟩ := rs.2 i b hi; exact ⟨u, by simpa using hu, hr⟩⟩
theorem Rl.append {c : Ctx} {M : List AO} {h : Array Obj} {T T' : List AV} {l l' : List Value} (r : Rl c M h T l) (r' : Rl c M h T' l') : Rl c M h (T ++ T') (l ++ l') := by
  refine ⟨by simp [r.1, r'.1], fun i a hi => ?_⟩
  rcases Nat.lt_or_ge i T.length with hlt | hge
  · rw [List.getElem?_append_left hlt] at hi
    obtain ⟨u, hu, hr⟩ := r.2 i a hi
    exact ⟨u, by rw [List.getElem?_append_left (by rw [← r.1]; exact hlt)]; exact hu, hr⟩
  · rw [List.getElem?_append_right hge] at hi
    obtain ⟨u, hu, hr⟩ := r'.2 _ a hi
    exact ⟨u, by rw [List.getElem?_append_right (by rw [← r.1]; exact hge), ← r.1]; exact hu, hr⟩
theorem Rl.take {c : Ctx} {M : List AO} {h : Array Obj} {T : List AV} {l : List Value} (r : Rl c M h T l) (n : Nat) : Rl c M h (T.take n) (l.take n) :=
  ⟨by simp [r.1], fun i a hi => by
    rw [List.getElem?_take] at hi
    split at hi
    · rename_i hlt
      obtain ⟨u, hu, hr⟩ := r.2 i a hi
      exact ⟨u, by rw [List.getElem?_take, if_pos hlt]; exact hu, hr⟩
    · cases hi⟩
theorem Rl.drop {c : Ctx} {M : List AO} {h : Array Obj} {T : List AV} {l : List Value} (r : Rl c M h T l) (n : Nat) : Rl c M h (T.drop n) (l.drop n) :=
  ⟨by simp [r.1], fun i a hi => by
    rw [List.getElem?_drop] at hi
    obtain ⟨u, hu, hr⟩ := r.2 _ a hi
    exact ⟨u, by rw [List.getElem?_drop]; exact hu, hr⟩⟩
theorem Rl.set {c : Ctx} {M : List AO} {h : Array Obj} {T : List AV} {l : List Value} (r : Rl c M h T l) {a : AV} {v : Value} (ra : R c M h a v) (n : Nat) : Rl c M h (T.set n a) (l.set n v) := by
  refine ⟨by simp [r.1], fun i b hi => ?_⟩
  by_cases e : n = i
  · subst e
    have hlt : n < T.length := by have := (List.getElem?_eq_some_iff.1 hi).1; simpa using this
    rw [List.getElem?_set_self hlt] at hi
    injection hi with hi; subst hi
    exact ⟨v, List.getElem?_set_self (by rw [← r.1]; exact hlt), ra⟩
  · rw [List.getElem?_set_ne e] at hi
    obtain ⟨u, hu, hr⟩ := r.2 i b hi
    exact ⟨u, by rw [List.getElem?_set_ne e]; exact hu, hr⟩
theorem Rl.anys (c : Ctx) (M : List AO) (h : Array Obj) : ∀ n (v : Value), Rl c M h (List.replicate n .any) (List.replicate n v)
  | 0, v => .nil c M h
  | n + 1, v => .cons (.any v) (Rl.anys c M h n v)
theorem Rl.at {c : Ctx} {M : List AO} {h : Array Obj} {T : List AV} {l : List Value} (r : Rl c M h T l) (n : Nat) (v : Value) : R c M h (T.getD n .any) (l.getD n v) := by
  rw [List.getD_eq_getElem?_getD, List.getD_eq_getElem?_getD]
  cases hi : T[n]? with
  | none => exact .any _
  | some a =>
    obtain ⟨u, hu, hr⟩ := r.2 n a hi
    rw [hu]; exact hr

/-- The frame: what its slots are told as. -/
abbrev Tm := Nat → AV
def Rt (c : Ctx) (M : List AO) (h : Array Obj) (T : Tm) (tmps : Array Value) : Prop := ∀ i, R c M h (T i) (tmps.getD i undef)
theorem Rt.mono {c c' : Ctx} {M M' : List AO} {h h' : Array Obj} (fr : Fr c M h c' M' h') {T : Tm} {l : Array Value} (r : Rt c M h T l) : Rt c' M' h' T l := fun i => (r i).mono fr
structure St (E : Env) (c : Ctx) (sz : Nat) (T : Tm) (M : List AO) (a : Act) (w : World) : Prop where
  defers : a.defers = []
  sim : SimE E c M w.heap
  size : a.tmps.size = sz
  tmps : Rt c M w.heap T a.tmps

/-- A call: whatever world the abstract memory lies in, the call returns. -/
def AC (E : Env) (f : FuncId) (args : List AV) (M : List AO) (Q : AV → List AO → Prop) : Prop :=
  Enters E.P f ∧ ∀ (c : Ctx) (w : World) (vs : Array Value), SimE E c M w.heap → Rl c M w.heap args vs.toList →
    Calls E.P f vs w fun e w' => ∃ r v M' c', e = .returned v ∧ Q r M' ∧ Fr c M w.heap c' M' w'.heap ∧ WF w w' ∧ SimE E c' M' w'.heap ∧ R c' M' w'.heap r v
theorem AC.mono {E : Env} {f : FuncId} {args : List AV} {M : List AO} {Q Q' : AV → List AO → Prop} (h : AC E f args M Q) (hq : ∀ r M', Q r M' → Q' r M') : AC E f args M Q' :=
  ⟨h.1, fun c w vs s r => (h.2 c w vs s r).mono fun e w' ⟨r, v, M', c', he, hQ, rest⟩ => ⟨r, v, M', c', he, hq _ _ hQ, rest⟩⟩

/-- As Fr, of the first n objects alone. -/
structure FrN (n : Nat) (c : Ctx) (M : List AO) (h : Array Obj) (c' : Ctx) (M' : List AO) (h' : Array Obj) : Prop where
  phi : ∀ b : Nat, c.φ b → c'.φ b
  heap : ∀ b : Nat, c.φ b → h'[b]? = h[b]?
  objs : ∀ (o : Nat) (ob : AO), o < n → M[o]? = some ob → ob ≠ .resv → ∃ ob', M'[o]? = some ob' ∧ ob' ≠ .resv ∧ ∀ cs', ob' = .mem cs' → ∃ cs, ob = .mem cs ∧ cs.length ≤ cs'.length ∧ (cs.length = cs'.length → c'.σ o = c.σ o ∧ c'.cap o = c.cap o)
theorem Fr.toN {c c' : Ctx} {M M' : List AO} {h h' : Array Obj} (a : Fr c M h c' M' h') (n : Nat) : FrN n c M h c' M' h' := ⟨a.phi, a.heap, fun o ob _ ho hnr => a.objs o ob ho hnr⟩
theorem FrN.full {n : Nat} {c c' : Ctx} {M M' : List AO} {h h' : Array Obj} (a : FrN n c M h c' M' h') (hn : M.length ≤ n) : Fr c M h c' M' h' :=
  ⟨a.phi, a.heap, fun o ob ho hnr => a.objs o ob (by have := (List.getElem?_eq_some_iff.1 ho).1; omega) ho hnr⟩
theorem FrN.refl (n : Nat) (c : Ctx) (M : List AO) (h : Array Obj) : FrN n c M h c M h := (Fr.refl c M h).toN n
theorem FrN.trans {n : Nat} {c c1 c2 : Ctx} {M M1 M2 : List AO} {h h1 h2 : Array Obj} (a : FrN n c M h c1 M1 h1) (b : FrN n c1 M1 h1 c2 M2 h2) : FrN n c M h c2 M2 h2 :=
  ⟨fun x hx => b.phi x (a.phi x hx), fun x hx => (b.heap x (a.phi x hx)).trans (a.heap x hx), fun o ob hn ho hnr => by
    obtain ⟨ob1, ho1, hn1, e1⟩ := a.objs o ob hn ho hnr
    obtain ⟨ob2, ho2, hn2, e2⟩ := b.objs o ob1 hn ho1 hn1
    refine ⟨ob2, ho2, hn2, fun cs' e => ?_⟩
    obtain ⟨cs1, e1', hl1, hs1⟩ := e2 cs' e
    obtain ⟨cs, e0, hl0, hs0⟩ := e1 cs1 e1'
    refine ⟨cs, e0, by omega, fun hh => ?_⟩
    have x1 := hs1 (by omega)
    have x0 := hs0 (by omega)
    exact ⟨x1.1.trans x0.1, x1.2.trans x0.2⟩⟩

/-- What is known where code has come to, seen from where it began. -/
def Post (E : Env) (n sz : Nat) (Q : Exit → Tm → List AO → Prop) (c : Ctx) (M : List AO) (w : World) : Exit → Act → World → Prop :=
  fun e a' w' => ∃ T' M' c', Q e T' M' ∧ FrN n c M w.heap c' M' w'.heap ∧ WF w w' ∧ St E c' sz T' M' a' w'
theorem Post.from {E : Env} {n sz : Nat} {Q : Exit → Tm → List AO → Prop} {c c1 : Ctx} {M M1 : List AO} {w w1 : World} (fr : FrN n c M w.heap c1 M1 w1.heap) (wf : WF w w1) {e : Exit} {a : Act} {w' : World}
    (h : Post E n sz Q c1 M1 w1 e a w') : Post E n sz Q c M w e a w' := by
  obtain ⟨T', M', c', hq, hf, hw, hs⟩ := h
  exact ⟨T', M', c', hq, fr.trans hf, wf.trans hw, hs⟩

def AW (E : Env) (n sz : Nat) (code : Code) (T : Tm) (M : List AO) (Q : Exit → Tm → List AO → Prop) : Prop :=
  ∀ c a w, St E c sz T M a w → code.wp E.P (Post E n sz Q c M w) a w
def AL (E : Env) (n sz : Nat) (ops : Array Oper) (l : List Oper) (T : Tm) (M : List AO) (Q : Exit → Tm → List AO → Prop) : Prop :=
  ∀ c a w (K : Exit → Act → World → Prop), St E c sz T M a w → (∀ e a' w', Post E n sz Q c M w e a' w' → K e a' w') → wpList E.P ops K l a w

theorem AW.mono {E : Env} {n : Nat} {code : Code} {sz : Nat} {T : Tm} {M : List AO} {Q Q' : Exit → Tm → List AO → Prop} (h : AW E n sz code T M Q) (hq : ∀ e T' M', Q e T' M' → Q' e T' M') : AW E n sz code T M Q' :=
  fun c a w s => wp_mono (h c a w s) fun e a' w' ⟨T', M', c', hQ, rest⟩ => ⟨T', M', c', hq _ _ _ hQ, rest⟩

def thenA (next : Tm → List AO → Prop) (Q : Exit → Tm → List AO → Prop) : Exit → Tm → List AO → Prop
  | .normal, T, M => next T M
  | e, T, M => Q e T M
theorem AW.seq {E : Env} {n : Nat} {x y : Code} {sz : Nat} {T : Tm} {M : List AO} {Q : Exit → Tm → List AO → Prop} (h : AW E n sz x T M (thenA (fun T' M' => AW E n sz y T' M' Q) Q)) : AW E n sz (.seq x y) T M Q := by
  intro c a w s
  refine wp_seq (wp_mono (h c a w s) ?_)
  rintro e a' w' ⟨T', M', c', hq, hf, hw, hs⟩
  cases e with
  | normal => exact wp_mono (hq c' a' w' hs) fun e2 a2 w2 h2 => h2.from hf hw
  | exit id => exact ⟨T', M', c', hq, hf, hw, hs⟩
  | goto l => exact ⟨T', M', c', hq, hf, hw, hs⟩
  | ret => exact ⟨T', M', c', hq, hf, hw, hs⟩
  | panic ch => exact ⟨T', M', c', hq, hf, hw, hs⟩
  | outgrown => exact ⟨T', M', c', hq, hf, hw, hs⟩
theorem AW.skip {E : Env} {n : Nat} {sz : Nat} {T : Tm} {M : List AO} {Q : Exit → Tm → List AO → Prop} (h : Q .normal T M) : AW E n sz .skip T M Q :=
  fun c a w s => wp_skip ⟨T, M, c, h, .refl .., .refl _, s⟩
theorem AW.ret {E : Env} {n : Nat} {sz : Nat} {T : Tm} {M : List AO} {Q : Exit → Tm → List AO → Prop} (h : Q .ret T M) : AW E n sz .ret T M Q :=
  fun c a w s => wp_ret ⟨T, M, c, h, .refl .., .refl _, s⟩
theorem AW.exit {E : Env} {n id : Nat} {sz : Nat} {T : Tm} {M : List AO} {Q : Exit → Tm → List AO → Prop} (h : Q (.exit id) T M) : AW E n sz (.exit id) T M Q :=
  fun c a w s => wp_exit ⟨T, M, c, h, .refl .., .refl _, s⟩
def inBlockA (id : Nat) (Q : Exit → Tm → List AO → Prop) : Exit → Tm → List AO → Prop
  | .exit id', T, M => if id' = id then Q .normal T M else Q (.exit id') T M
  | e, T, M => Q e T M
theorem AW.block {E : Env} {n id : Nat} {x : Code} {sz : Nat} {T : Tm} {M : List AO} {Q : Exit → Tm → List AO → Prop} (h : AW E n sz x T M (inBlockA id Q)) : AW E n sz (.block id x) T M Q := by
  intro c a w s
  refine wp_block (wp_mono (h c a w s) ?_)
  rintro e a' w' ⟨T', M', c', hq, hf, hw, hs⟩
  cases e with
  | exit id' =>
    simp only [inBlockA] at hq
    simp only [Exit.inBlock]
    split
    · rename_i e; rw [if_pos e] at hq; exact ⟨T', M', c', hq, hf, hw, hs⟩
    · rename_i e; rw [if_neg e] at hq; exact ⟨T', M', c', hq, hf, hw, hs⟩
  | normal => exact ⟨T', M', c', hq, hf, hw, hs⟩
  | goto l => exact ⟨T', M', c', hq, hf, hw, hs⟩
  | ret => exact ⟨T', M', c', hq, hf, hw, hs⟩
  | panic ch => exact ⟨T', M', c', hq, hf, hw, hs⟩
  | outgrown => exact ⟨T', M', c', hq, hf, hw, hs⟩

/-- A loop: what holds at each round's head, and what falls from round to round. -/
theorem AW.loop {E : Env} {n : Nat} {x : Code} {sz : Nat} {T : Tm} {M : List AO} {Q : Exit → Tm → List AO → Prop} (I : Nat → Tm → List AO → Prop) (d : Nat) (h0 : I d T M)
    (round : ∀ d T M, I d T M → AW E n sz x T M (thenA (fun T' M' => ∃ d', d' < d ∧ I d' T' M') Q)) : AW E n sz (.loop x) T M Q := by
  intro c a w s b k cs
  have key : ∀ (d : Nat) (c : Ctx) (T : Tm) (M : List AO) (a : Act) (w : World), I d T M → St E c sz T M a w →
      ∃ e a' w', Post E n sz Q c M w e a' w' ∧ Arrives E.P (lone (b.at a (.code x :: .inLoop x :: k)) cs w) b k cs e a' w' := by
    intro d
    induction d using Nat.strongRecOn with
    | _ d ih =>
      intro c T M a w hI s
      obtain ⟨e, a1, w1, ⟨T1, M1, c1, hq, hf, hw, hs⟩, harr⟩ := round d T M hI c a w s b (.inLoop x :: k) cs
      cases e with
      | normal =>
        obtain ⟨d', hlt, hI1⟩ := hq
        obtain ⟨e2, a2, w2, hq2, harr2⟩ := ih d' hlt c1 T1 M1 a1 w1 hI1 hs
        exact ⟨e2, a2, w2, hq2.from hf hw, .of_steps (Steps.trans harr (.one step_inLoop)) harr2⟩
      | exit id => exact ⟨_, a1, w1, ⟨T1, M1, c1, hq, hf, hw, hs⟩, .pass (x := .inLoop x) rfl (fun _ _ => .inl (by simp)) harr⟩
      | goto l => exact ⟨_, a1, w1, ⟨T1, M1, c1, hq, hf, hw, hs⟩, .pass (x := .inLoop x) rfl (fun _ _ => .inl (by simp)) harr⟩
      | ret => exact ⟨_, a1, w1, ⟨T1, M1, c1, hq, hf, hw, hs⟩, .pass (x := .inLoop x) rfl (fun _ _ => .inl (by simp)) harr⟩
      | panic ch => exact ⟨_, a1, w1, ⟨T1, M1, c1, hq, hf, hw, hs⟩, .pass (x := .inLoop x) rfl (fun _ _ => .inl (by simp)) harr⟩
      | outgrown => exact ⟨_, a1, w1, ⟨T1, M1, c1, hq, hf, hw, hs⟩, .pass (x := .inLoop x) rfl (fun _ _ => .inl (by simp)) harr⟩
  obtain ⟨e, a', w', hq, harr⟩ := key d c T M a w h0 s
  exact ⟨e, a', w', hq, .of_steps (.one step_loop) harr⟩

/-- Another telling of the same state: objects behind the first n may go, or be told as frozen. -/
theorem AW.retell {E : Env} {n : Nat} {x : Code} {sz : Nat} {T T2 : Tm} {M M2 : List AO} {Q : Exit → Tm → List AO → Prop}
    (hk : ∀ c a w, St E c sz T M a w → ∃ c2, FrN n c M w.heap c2 M2 w.heap ∧ St E c2 sz T2 M2 a w) (h : AW E n sz x T2 M2 Q) : AW E n sz x T M Q := by
  intro c a w s
  obtain ⟨c2, hf, s2⟩ := hk c a w s
  exact wp_mono (h c2 a w s2) fun e a' w' h' => h'.from hf (.refl _)

/-! ### Operands -/
/-- A model's value that stands in the code. -/
def ofV : Value → AV
  | .bool b => .bool b
  | .int k n => .int k n
  | .string s => .str s
  | .pointer none => .nilp
  | .nilIface => .nili
  | .nilFunc => .nilf
  | .slice none n c => if n = 0 then (if c = 0 then .nils else .any) else .any
  | _ => .any
theorem ofV_R (c : Ctx) (M : List AO) (h : Array Obj) (v : Value) : R c M h (ofV v) v := by
  unfold ofV
  split
  · exact .bool _
  · exact .int _ _
  · exact .str _
  · exact .nilp
  · exact .nili
  · exact .nilf
  · split
    · rename_i e; subst e
      split
      · rename_i e; subst e; exact .nils
      · exact .any _
    · exact .any _
  · exact .any _
/-- A zero value, a struct's too. -/
def ofZ : Value → AV
  | .agg cs => .agg (cs.toList.map ofV)
  | v => ofV v
theorem ofVs_at (c : Ctx) (M : List AO) (h : Array Obj) (l : List Value) : Rl c M h (l.map ofV) l :=
  ⟨by simp, fun i a hi => by
    rw [List.getElem?_map] at hi
    cases hl : l[i]? with
    | none => rw [hl] at hi; cases hi
    | some u => rw [hl] at hi; injection hi with hi; subst hi; exact ⟨u, rfl, ofV_R c M h u⟩⟩
theorem R.agg' {c : Ctx} {M : List AO} {h : Array Obj} {cs : List AV} {l : List Value} (r : Rl c M h cs l) : R c M h (.agg cs) (.agg l.toArray) :=
  .agg cs l.toArray (fun i => l.getD i undef) (by simp [r.1]) (fun i hi => by simp [List.getElem?_eq_getElem (show i < l.length by rw [← r.1]; exact hi), List.getD_eq_getElem?_getD])
    (fun i a hi => by obtain ⟨u, hu, hr⟩ := r.2 i a hi; rw [List.getD_eq_getElem?_getD, hu]; exact hr)
theorem R.tup' {c : Ctx} {M : List AO} {h : Array Obj} {cs : List AV} {l : List Value} (r : Rl c M h cs l) : R c M h (.tup cs) (.tuple l.toArray) :=
  .tup cs l.toArray (fun i => l.getD i undef) (by simp [r.1]) (fun i hi => by simp [List.getElem?_eq_getElem (show i < l.length by rw [← r.1]; exact hi), List.getD_eq_getElem?_getD])
    (fun i a hi => by obtain ⟨u, hu, hr⟩ := r.2 i a hi; rw [List.getD_eq_getElem?_getD, hu]; exact hr)
theorem R.fn' {c : Ctx} {M : List AO} {h : Array Obj} {f : FuncId} {cs : List AV} {l : List Value} (r : Rl c M h cs l) : R c M h (.fn f cs) (.func (.func f) #[] l.toArray) :=
  .fn f cs l.toArray (fun i => l.getD i undef) (by simp [r.1]) (fun i hi => by simp [List.getElem?_eq_getElem (show i < l.length by rw [← r.1]; exact hi), List.getD_eq_getElem?_getD])
    (fun i a hi => by obtain ⟨u, hu, hr⟩ := r.2 i a hi; rw [List.getD_eq_getElem?_getD, hu]; exact hr)
theorem ofZ_R (c : Ctx) (M : List AO) (h : Array Obj) (v : Value) : R c M h (ofZ v) v := by
  unfold ofZ
  split
  · rename_i cs
    have := R.agg' (ofVs_at c M h cs.toList)
    simpa using this
  · exact ofV_R c M h _

def ev (E : Env) (T : Tm) : Operand → AV
  | .tmp t => T t
  | .const v => ofZ v
  | .global g => match E.G g with
    | some cs => .fp cs
    | none => .any
  | .func f => .fn f []
theorem ev_R {E : Env} {c : Ctx} {sz : Nat} {T : Tm} {M : List AO} {a : Act} {w : World} (s : St E c sz T M a w) (x : Operand) : R c M w.heap (ev E T x) (a.eval x) := by
  cases x with
  | tmp t =>
    exact s.tmps t
  | const v => exact ofZ_R c M w.heap v
  | global g =>
    show R c M w.heap (match E.G g with | some cs => .fp cs | none => .any) _
    split
    · rename_i cs e; exact s.sim.glob g cs e
    · exact .any _
  | func f => exact .fn f [] #[] (fun _ => undef) rfl (fun i hi => by simp at hi) (fun i a hi => by simp at hi)
theorem evs_R {E : Env} {c : Ctx} {sz : Nat} {T : Tm} {M : List AO} {a : Act} {w : World} (s : St E c sz T M a w) (xs : List Operand) : Rl c M w.heap (xs.map (ev E T)) (xs.map a.eval) :=
  ⟨by simp, fun i b hi => by
    rw [List.getElem?_map] at hi
    cases hl : xs[i]? with
    | none => rw [hl] at hi; cases hi
    | some u => rw [hl] at hi; injection hi with hi; subst hi; exact ⟨a.eval u, by simp [hl], ev_R s u⟩⟩

/-! ### One operation -/
def updA (T : Tm) (d : Nat) (r : AV) : Tm := fun i => if i = d then r else T i
def putA (T : Tm) (dst : Option Tmp) (r : AV) : Tm :=
  match dst with
  | some d => updA T d r
  | none => T
/-- A place that there is. -/
def fits (sz : Nat) : Option Tmp → Prop
  | some d => d < sz
  | none => True
theorem St.put {E : Env} {c : Ctx} {sz : Nat} {T : Tm} {M : List AO} {a : Act} {w : World} (s : St E c sz T M a w) (dst : Option Tmp) (hd : fits sz dst) {r : AV} {v : Value} (hr : R c M w.heap r v) : St E c sz (putA T dst r) M (a.put dst v) w := by
  cases dst with
  | none => exact s
  | some d =>
    refine ⟨s.defers, s.sim, by simpa [Act.put] using s.size, fun i => ?_⟩
    have hd : d < a.tmps.size := by rw [s.size]; exact hd
    show R c M w.heap (updA T d r i) ((a.tmps.setIfInBounds d v).getD i undef)
    unfold updA
    by_cases e : i = d
    · subst e
      rw [if_pos rfl]
      have : (a.tmps.setIfInBounds i v).getD i undef = v := by simp [Array.getD_eq_getD_getElem?, hd]
      rw [this]; exact hr
    · rw [if_neg e]
      have : (a.tmps.setIfInBounds d v).getD i undef = a.tmps.getD i undef := by
        rw [Array.getD_eq_getD_getElem?, Array.getD_eq_getD_getElem?, Array.getElem?_setIfInBounds_ne (by omega)]
      rw [this]; exact s.tmps i

def OpOk (E : Env) (sz : Nat) (o : Oper) (T : Tm) (M : List AO) (N : AV → List AO → Prop) : Prop :=
  ∀ c a w (next : Act → World → Prop) (Q : Exit → Act → World → Prop), St E c sz T M a w →
    (∀ r v M1 c1 w1, N r M1 → Fr c M w.heap c1 M1 w1.heap → WF w w1 → SimE E c1 M1 w1.heap → R c1 M1 w1.heap r v → next (a.put o.dst v) w1) → o.wp E.P a w next Q

theorem OpOk.val {E : Env} {o : Oper} {sz : Nat} {T : Tm} {M : List AO} {N : AV → List AO → Prop}
    (h : ∀ c a w, St E c sz T M a w → ∃ v w1 r M1 c1, (execOp a.eval o).run E.P w = .ok (.value v) w1 ∧ N r M1 ∧ Fr c M w.heap c1 M1 w1.heap ∧ WF w w1 ∧ SimE E c1 M1 w1.heap ∧ R c1 M1 w1.heap r v) : OpOk E sz o T M N := by
  intro c a w next Q s k
  obtain ⟨v, w1, r, M1, c1, hr, hN, hf, hw, hs, hR⟩ := h c a w s
  unfold Oper.wp
  rw [hr]
  exact k r v M1 c1 w1 hN hf hw hs hR
theorem OpOk.unit {E : Env} {o : Oper} {sz : Nat} {T : Tm} {M : List AO} {N : AV → List AO → Prop}
    (h : ∀ c a w, St E c sz T M a w → ∃ w1 M1 c1, (execOp a.eval o).run E.P w = .ok .skip w1 ∧ N .any M1 ∧ Fr c M w.heap c1 M1 w1.heap ∧ WF w w1 ∧ SimE E c1 M1 w1.heap) : OpOk E sz o T M N := by
  intro c a w next Q s k
  obtain ⟨w1, M1, c1, hr, hN, hf, hw, hs⟩ := h c a w s
  unfold Oper.wp
  rw [hr]
  exact k .any undef M1 c1 w1 hN hf hw hs (.any _)
/-- An operation that only computes. -/
theorem OpOk.pure {E : Env} {o : Oper} {sz : Nat} {T : Tm} {M : List AO} {N : AV → List AO → Prop} (r : AV) (hN : N r M)
    (h : ∀ c a w, St E c sz T M a w → ∃ v, (execOp a.eval o).run E.P w = .ok (.value v) w ∧ R c M w.heap r v) : OpOk E sz o T M N :=
  .val fun c a w s => by
    obtain ⟨v, hr, hR⟩ := h c a w s
    exact ⟨v, w, r, M, c, hr, hN, .refl .., .refl _, s.sim, hR⟩
theorem OpOk.mono {E : Env} {o : Oper} {sz : Nat} {T : Tm} {M : List AO} {N N' : AV → List AO → Prop} (h : OpOk E sz o T M N) (hN : ∀ r M', N r M' → N' r M') : OpOk E sz o T M N' :=
  fun c a w next Q s k => h c a w next Q s fun r v M1 c1 w1 hn => k r v M1 c1 w1 (hN r M1 hn)

theorem AL.nil {E : Env} {n : Nat} {ops : Array Oper} {sz : Nat} {T : Tm} {M : List AO} {Q : Exit → Tm → List AO → Prop} (h : Q .normal T M) : AL E n sz ops [] T M Q :=
  fun c a w K s hK => hK .normal a w ⟨T, M, c, h, .refl .., .refl _, s⟩
theorem AL.cons {E : Env} {n : Nat} {ops : Array Oper} {o : Oper} {rest : List Oper} {sz : Nat} {T : Tm} {M : List AO} {Q : Exit → Tm → List AO → Prop} (hg : o.guard = none) (hd : fits sz o.dst)
    (h : OpOk E sz o T M fun r M1 => AL E n sz ops rest (putA T o.dst r) M1 Q) : AL E n sz ops (o :: rest) T M Q := by
  intro c a w K s hK
  refine wpList_plain hg fun K' hK' => h c a w K' K s fun r v M1 c1 w1 hN hf hw hs hR => hK' _ _ ?_
  refine hN c1 (a.put o.dst v) w1 K ?_ fun e a' w' hp => hK e a' w' (hp.from (hf.toN n) hw)
  exact (St.mk s.defers hs s.size (s.tmps.mono hf)).put o.dst hd hR

/-- A guarded operation: it runs, or what it would have told is nothing. ds: where the operations of the region put what they tell. -/
def guardA (ds : List (Option Tmp)) (T : Tm) : Option (Nat × Bool) → Option Bool
  | none => some true
  | some (j, want) => match ds[j]? with
    | some (some d) => (match T d with
      | .bool b => some (b == want)
      | _ => none)
    | _ => none
theorem guardA_wanted {E : Env} {c : Ctx} {sz : Nat} {T : Tm} {M : List AO} {a : Act} {w : World} (s : St E c sz T M a w) {ops : Array Oper} {o : Oper} {b : Bool} (h : guardA (ops.toList.map (·.dst)) T o.guard = some b) : Region.wanted o (yielded ops a.tmps) = b := by
  unfold Region.wanted
  cases hg : o.guard with
  | none => rw [hg] at h; simpa [guardA] using h
  | some p =>
    obtain ⟨j, want⟩ := p
    rw [hg] at h
    simp only [guardA] at h
    split at h
    · rename_i d hd
      have hd : (ops[j]?).bind (·.dst) = some d := by
        rw [List.getElem?_map] at hd
        obtain ⟨o', ho', he⟩ := Option.map_eq_some_iff.1 hd
        have : ops[j]? = some o' := by simpa using ho'
        rw [this]; exact he
      split at h
      · rename_i b' hb
        injection h with h
        have hr := s.tmps d
        rw [hb] at hr
        have : yielded ops a.tmps j = some b' := by
          unfold yielded
          rw [hd]
          rw [Array.getD_eq_getD_getElem?] at hr
          cases hx : a.tmps[d]? with
          | none => rw [hx] at hr; exact absurd hr (by intro h0; cases h0)
          | some x =>
            rw [hx] at hr
            simp only [Option.getD_some] at hr
            cases hr
            simp [hx]
        show (yielded ops a.tmps j == some want) = b
        rw [this, ← h]
        cases b' <;> cases want <;> rfl
      · cases h
    · cases h
theorem AL.guarded {E : Env} {n sz : Nat} {ops : Array Oper} {o : Oper} {rest : List Oper} {T : Tm} {M : List AO} {Q : Exit → Tm → List AO → Prop} (b : Bool) (hb : guardA (ops.toList.map (·.dst)) T o.guard = some b) (hd : fits sz o.dst)
    (ht : b = true → OpOk E sz o T M fun r M1 => AL E n sz ops rest (putA T o.dst r) M1 Q) (hf : b = false → AL E n sz ops rest (putA T o.dst .any) M Q) : AL E n sz ops (o :: rest) T M Q := by
  intro c a w K s hK
  have hw := guardA_wanted s hb
  unfold wpList
  rw [hw]
  cases b with
  | false => exact hf rfl c _ w K (s.put o.dst hd (.any _)) hK
  | true =>
    rw [if_pos rfl]
    refine .inl (ht rfl c a w _ K s fun r v M1 c1 w1 hN hf hw hs hR => ?_)
    refine hN c1 (a.put o.dst v) w1 K ?_ fun e a' w' hp => hK e a' w' (hp.from (hf.toN n) hw)
    exact (St.mk s.defers hs s.size (s.tmps.mono hf)).put o.dst hd hR

theorem AW.region {E : Env} {n id : Nat} {l : List Oper} {sz : Nat} {T : Tm} {M : List AO} {Q : Exit → Tm → List AO → Prop} (h : AL E n sz l.toArray l T M Q) : AW E n sz (.region id l.toArray false) T M Q :=
  fun c a w s => wp_region_lit (h c a w _ s fun _ _ _ hp => hp)

/-- A condition. -/
theorem AW.cond {E : Env} {n : Nat} {x : Operand} {y z : Code} {sz : Nat} {T : Tm} {M : List AO} {Q : Exit → Tm → List AO → Prop} (b : Bool) (hb : ev E T x = .bool b)
    (ht : b = true → AW E n sz y T M Q) (hf : b = false → AW E n sz z T M Q) : AW E n sz (.cond x y z) T M Q := by
  intro c a w s
  have hr := ev_R s x
  rw [hb] at hr
  generalize hv : a.eval x = v at hr
  cases hr
  exact wp_cond_split hv (fun e => ht e c a w s) (fun e => hf e c a w s)

/-! ### A function's body -/
def argsT (args : List AV) : Tm := fun i => args.getD i .any
theorem AC.of_body {E : Env} {f : FuncId} {fn : Func} {code : Code} {args : List AV} {M : List AO} {Q : AV → List AO → Prop} (hf : E.P.funcs[f]? = some fn) (hn : (fn.name == "runtime.NumGoroutine") = false) (hb : fn.body = some code)
    (hl : args.length ≤ fn.ntmps) (h : AW E M.length fn.ntmps code (argsT args) M fun e T' M' => (e = .normal ∨ e = .ret) ∧
      ∀ c a w, St E c fn.ntmps T' M' a w → ∃ v r M2 c2, (results fn a.tmps).run E.P w = .ok v w ∧ Q r M2 ∧ FrN M.length c M' w.heap c2 M2 w.heap ∧ SimE E c2 M2 w.heap ∧ R c2 M2 w.heap r v) :
    AC E f args M Q := by
  refine ⟨enters_of hf hn hb, fun c w vs s r => ?_⟩
  refine calls_of_wp hf hb ?_
  have hl2 : args.length = vs.size := by simpa using r.1
  have s0 : St E c fn.ntmps (argsT args) M { tmps := vs ++ Array.replicate (fn.ntmps - vs.size) undef, defers := [] } w := by
    refine ⟨rfl, s, by simp; omega, fun i => ?_⟩
    show R c M w.heap (args.getD i .any) _
    rw [List.getD_eq_getElem?_getD]
    cases hi : args[i]? with
    | none => exact .any _
    | some b =>
      obtain ⟨u, hu, hr⟩ := r.2 i b hi
      have : (vs ++ Array.replicate (fn.ntmps - vs.size) undef).getD i undef = u := by
        have hlt : i < vs.size := by have := (List.getElem?_eq_some_iff.1 hi).1; omega
        rw [Array.getD_eq_getD_getElem?, Array.getElem?_append_left hlt]
        have : vs[i]? = some u := by simpa using hu
        rw [this]; rfl
      rw [this]; exact hr
  refine wp_mono (h c _ w s0) ?_
  rintro e a' w' ⟨T', M', c', ⟨he, hq⟩, hf1, hw, hs⟩
  obtain ⟨v, r', M2, c2, hres, hQ, hf2, hs2, hR⟩ := hq c' a' w' hs
  have fin : ∃ r v0 M' c', Ending.returned v = .returned v0 ∧ Q r M' ∧ Fr c M w.heap c' M' w'.heap ∧ WF w w' ∧ SimE E c' M' w'.heap ∧ R c' M' w'.heap r v0 :=
    ⟨r', v, M2, c2, rfl, hQ, (hf1.trans hf2).full (Nat.le_refl _), hw, hs2, hR⟩
  rcases he with rfl | rfl
  · exact ⟨hs.defers, v, hres, fin⟩
  · exact ⟨hs.defers, v, hres, fin⟩

end Go.Ax
