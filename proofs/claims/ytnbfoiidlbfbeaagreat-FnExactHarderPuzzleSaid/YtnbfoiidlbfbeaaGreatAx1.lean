/- A small program logic over the kit's Calls and Code.wp: abstract values, abstract memory, and what ties them to the model's. -/
import Derived.Tactics
import Derived.Below
import Derived.Laws.OwnMore
namespace Go.Ax
open Go.RowKit (Below)

/-- Abstract values. 'fz' is a slice that nobody writes to any more, told as the list of its elements. -/
inductive AV where
  | any
  | bool (b : Bool)
  | int (k : IntKind) (n : Int)
  | str (s : ByteArray)
  | nilp | nili | nilf | nils
  | ifc
  | ptr (o off g : Nat)
  | fp (cs : List AV)
  | sl (k o off len g : Nat)
  | fz (k : Nat) (xs : List AV)
  | fn (f : FuncId) (caps : List AV)
  | agg (cs : List AV)
  | tup (vs : List AV)
  deriving Inhabited

/-- A value's cells. -/
def AV.cells : AV → List AV
  | .agg cs => cs
  | v => [v]
/-- The cells of a row of values. -/
def flat (xs : List AV) : List AV := xs.flatMap AV.cells

/-- Abstract memory: cells that are alive, or what is gone. -/
inductive AO where
  | mem (cs : List AV)
  | dead
  | resv
  deriving Inhabited

structure Ctx where
  σ : Nat → Nat
  cap : Nat → Nat
  φ : Nat → Prop

def Known (M : List AO) (o g : Nat) : Prop := ∃ ob, M[o]? = some ob ∧ ob ≠ .resv ∧ ∀ cs, ob = .mem cs → g ≤ cs.length
def Cur (M : List AO) (o g : Nat) : Prop := ∃ cs, M[o]? = some (.mem cs) ∧ cs.length = g

/-- What a model's value is told as. -/
inductive R (c : Ctx) (M : List AO) (h : Array Obj) : AV → Value → Prop
  | any (v : Value) : R c M h .any v
  | bool (b : Bool) : R c M h (.bool b) (.bool b)
  | int (k : IntKind) (n : Int) : R c M h (.int k n) (.int k n)
  | str (s : ByteArray) : R c M h (.str s) (.string s)
  | nilp : R c M h .nilp (.pointer none)
  | nili : R c M h .nili .nilIface
  | nilf : R c M h .nilf .nilFunc
  | nils : R c M h .nils (.slice none 0 0)
  | ifc (t : TypeId) (v : Value) : R c M h .ifc (.iface t v)
  | ptr (o off g : Nat) (v : Value) (hk : Known M o g) (h1 : v.oneCell' = true) (hv : Cur M o g → v = .pointer (some ⟨c.σ o, off, none⟩)) : R c M h (.ptr o off g) v
  | fp (cs : List AV) (B off : Nat) (f : Nat → Value) (cur : Array Value) (ty : TypeId) (fr : Nat × Nat) (hp : c.φ B) (hb : h[B]? = some (.cells cur ty fr))
      (hf : ∀ i : Nat, i < cs.length → cur[off + i]? = some (f i)) (hr : ∀ (i : Nat) (a : AV), cs[i]? = some a → R c M h a (f i)) : R c M h (.fp cs) (.pointer (some ⟨B, off, none⟩))
  | sl (k o off len g : Nat) (v : Value) (hk : Known M o g) (h1 : v.oneCell' = true)
      (hv : Cur M o g → off + len * k ≤ g ∧ ∃ cap, v = .slice (some ⟨c.σ o, off, none⟩) len cap ∧ len ≤ cap ∧ cap ≤ maxLen ∧ off + cap * k ≤ c.cap o ∧ g ≤ off + cap * k) : R c M h (.sl k o off len g) v
  | fz0 (k : Nat) (A : Option Addr) (cap : Nat) : R c M h (.fz k []) (.slice A 0 cap)
  | fz (k : Nat) (xs : List AV) (B off cap : Nat) (f : Nat → Value) (cur : Array Value) (ty : TypeId) (fr : Nat × Nat) (hp : c.φ B) (hb : h[B]? = some (.cells cur ty fr))
      (hl : xs.length ≤ cap) (hk : ∀ x ∈ xs, x.cells.length = k) (hf : ∀ i : Nat, i < (flat xs).length → cur[off + i]? = some (f i)) (hr : ∀ (i : Nat) (a : AV), (flat xs)[i]? = some a → R c M h a (f i)) :
      R c M h (.fz k xs) (.slice (some ⟨B, off, none⟩) xs.length cap)
  | fn (f : FuncId) (caps : List AV) (arr : Array Value) (fv : Nat → Value) (hs : arr.size = caps.length) (hf : ∀ i : Nat, i < caps.length → arr[i]? = some (fv i))
      (hr : ∀ (i : Nat) (a : AV), caps[i]? = some a → R c M h a (fv i)) : R c M h (.fn f caps) (.func (.func f) #[] arr)
  | agg (cs : List AV) (arr : Array Value) (fv : Nat → Value) (hs : arr.size = cs.length) (hf : ∀ i : Nat, i < cs.length → arr[i]? = some (fv i))
      (hr : ∀ (i : Nat) (a : AV), cs[i]? = some a → R c M h a (fv i)) : R c M h (.agg cs) (.agg arr)
  | tup (cs : List AV) (arr : Array Value) (fv : Nat → Value) (hs : arr.size = cs.length) (hf : ∀ i : Nat, i < cs.length → arr[i]? = some (fv i))
      (hr : ∀ (i : Nat) (a : AV), cs[i]? = some a → R c M h a (fv i)) : R c M h (.tup cs) (.tuple arr)

/-- From one state to a later one: what is told of the old one's values stays true. -/
structure Fr (c : Ctx) (M : List AO) (h : Array Obj) (c' : Ctx) (M' : List AO) (h' : Array Obj) : Prop where
  phi : ∀ b : Nat, c.φ b → c'.φ b
  heap : ∀ b : Nat, c.φ b → h'[b]? = h[b]?
  objs : ∀ (o : Nat) (ob : AO), M[o]? = some ob → ob ≠ .resv → ∃ ob', M'[o]? = some ob' ∧ ob' ≠ .resv ∧ ∀ cs', ob' = .mem cs' → ∃ cs, ob = .mem cs ∧ cs.length ≤ cs'.length ∧ (cs.length = cs'.length → c'.σ o = c.σ o ∧ c'.cap o = c.cap o)

theorem Fr.refl (c : Ctx) (M : List AO) (h : Array Obj) : Fr c M h c M h :=
  ⟨fun _ h => h, fun _ _ => rfl, fun _ ob ho hne => ⟨ob, ho, hne, fun cs' e => ⟨cs', e, Nat.le_refl _, fun _ => ⟨rfl, rfl⟩⟩⟩⟩
theorem Fr.trans {c c1 c2 : Ctx} {M M1 M2 : List AO} {h h1 h2 : Array Obj} (a : Fr c M h c1 M1 h1) (b : Fr c1 M1 h1 c2 M2 h2) : Fr c M h c2 M2 h2 :=
  ⟨fun x hx => b.phi x (a.phi x hx), fun x hx => (b.heap x (a.phi x hx)).trans (a.heap x hx), fun o ob ho hne => by
    obtain ⟨ob1, ho1, hn1, e1⟩ := a.objs o ob ho hne
    obtain ⟨ob2, ho2, hn2, e2⟩ := b.objs o ob1 ho1 hn1
    refine ⟨ob2, ho2, hn2, fun cs' e => ?_⟩
    obtain ⟨cs1, e1', hl1, hs1⟩ := e2 cs' e
    obtain ⟨cs, e0, hl0, hs0⟩ := e1 cs1 e1'
    refine ⟨cs, e0, by omega, fun hh => ?_⟩
    have x1 := hs1 (by omega)
    have x0 := hs0 (by omega)
    exact ⟨x1.1.trans x0.1, x1.2.trans x0.2⟩⟩

theorem Fr.known {c c' : Ctx} {M M' : List AO} {h h' : Array Obj} (a : Fr c M h c' M' h') {o g : Nat} (k : Known M o g) : Known M' o g := by
  obtain ⟨ob, ho, hne, hg⟩ := k
  obtain ⟨ob', ho', hn', e⟩ := a.objs o ob ho hne
  refine ⟨ob', ho', hn', fun cs' e' => ?_⟩
  obtain ⟨cs, e0, hl, _⟩ := e cs' e'
  exact Nat.le_trans (hg cs e0) hl
theorem Fr.cur {c c' : Ctx} {M M' : List AO} {h h' : Array Obj} (a : Fr c M h c' M' h') {o g : Nat} (k : Known M o g) (k' : Cur M' o g) : Cur M o g ∧ c'.σ o = c.σ o ∧ c'.cap o = c.cap o := by
  obtain ⟨ob, ho, hne, hg⟩ := k
  obtain ⟨cs', ho', rfl⟩ := k'
  obtain ⟨ob', ho2, _, e⟩ := a.objs o ob ho hne
  rw [ho'] at ho2
  obtain rfl := Option.some.inj ho2
  obtain ⟨cs, e0, hl, hs⟩ := e cs' rfl
  have hl2 := hg cs e0
  have : cs.length = cs'.length := by omega
  exact ⟨⟨cs, by rw [ho, e0], this⟩, hs this⟩

theorem R.mono {c c' : Ctx} {M M' : List AO} {h h' : Array Obj} (fr : Fr c M h c' M' h') {a : AV} {v : Value} (r : R c M h a v) : R c' M' h' a v := by
  induction r with
  | any v => exact .any v
  | bool b => exact .bool b
  | int k n => exact .int k n
  | str s => exact .str s
  | nilp => exact .nilp
  | nili => exact .nili
  | nilf => exact .nilf
  | nils => exact .nils
  | ifc t v => exact .ifc t v
  | ptr o off g v hk h1 hv =>
    refine .ptr o off g v (fr.known hk) h1 fun hc => ?_
    obtain ⟨hc0, e1, _⟩ := fr.cur hk hc
    rw [e1]; exact hv hc0
  | fp cs B off f cur ty fr0 hp hb hf hr ih => exact .fp cs B off f cur ty fr0 (fr.phi B hp) ((fr.heap B hp).trans hb) hf ih
  | sl k o off len g v hk h1 hv =>
    refine .sl k o off len g v (fr.known hk) h1 fun hc => ?_
    obtain ⟨hc0, e1, e2⟩ := fr.cur hk hc
    rw [e1, e2]; exact hv hc0
  | fz0 k A cap => exact .fz0 k A cap
  | fz k xs B off cap f cur ty fr0 hp hb hl hk hf hr ih => exact .fz k xs B off cap f cur ty fr0 (fr.phi B hp) ((fr.heap B hp).trans hb) hl hk hf ih
  | fn f caps arr fv hs hf hr ih => exact .fn f caps arr fv hs hf ih
  | agg cs arr fv hs hf hr ih => exact .agg cs arr fv hs hf ih
  | tup cs arr fv hs hf hr ih => exact .tup cs arr fv hs hf ih

/-- The abstract memory lies in the heap. -/
structure Sim (c : Ctx) (M : List AO) (h : Array Obj) : Prop where
  live : ∀ (o : Nat) (cs : List AV), M[o]? = some (.mem cs) → ∃ cur ty, h[c.σ o]? = some (.cells cur ty (0, 0)) ∧ cur.size = c.cap o ∧ cs.length ≤ cur.size ∧ ∀ (i : Nat) (a : AV), cs[i]? = some a → ∃ u, cur[i]? = some u ∧ R c M h a u
  inj : ∀ (o o' : Nat) (cs cs' : List AV), M[o]? = some (.mem cs) → M[o']? = some (.mem cs') → c.σ o = c.σ o' → o = o'
  apart : ∀ (o : Nat) (cs : List AV), M[o]? = some (.mem cs) → ¬ c.φ (c.σ o)
  old : ∀ b : Nat, c.φ b → b < h.size

theorem lt_of_get {α : Type} {h : Array α} {i : Nat} {x : α} (e : h[i]? = some x) : i < h.size := (Array.getElem?_eq_some_iff.1 e).1
theorem Sim.lt {c : Ctx} {M : List AO} {h : Array Obj} (s : Sim c M h) {o : Nat} {cs : List AV} (ho : M[o]? = some (.mem cs)) : c.σ o < h.size := by
  obtain ⟨cur, ty, hb, _⟩ := s.live o cs ho
  exact lt_of_get hb

def upd (f : Nat → Nat) (i x : Nat) : Nat → Nat := fun j => if j = i then x else f j
theorem upd_same (f : Nat → Nat) (i x : Nat) : upd f i x i = x := by simp [upd]
theorem upd_ne (f : Nat → Nat) {i j : Nat} (x : Nat) (h : j ≠ i) : upd f i x j = f j := by simp [upd, h]

/-- A new object in a new block. -/
theorem Sim.alloc {c : Ctx} {M : List AO} {h : Array Obj} (s : Sim c M h) (cs : List AV) (vs : Array Value) (ty : TypeId) (hl : cs.length ≤ vs.size)
    (hv : ∀ (i : Nat) (a : AV), cs[i]? = some a → ∃ u, vs[i]? = some u ∧ R c M h a u) :
    let c' : Ctx := { σ := upd c.σ M.length h.size, cap := upd c.cap M.length vs.size, φ := c.φ }
    Fr c M h c' (M ++ [.mem cs]) (h.push (.cells vs ty)) ∧ Sim c' (M ++ [.mem cs]) (h.push (.cells vs ty)) := by
  intro c'
  have fr : Fr c M h c' (M ++ [.mem cs]) (h.push (.cells vs ty)) := by
    refine ⟨fun _ hb => hb, fun b hb => ?_, fun o ob ho hnr => ⟨ob, ?_, hnr, fun cs' e => ⟨cs', e, Nat.le_refl _, fun _ => ?_⟩⟩⟩
    · rw [Array.getElem?_push, if_neg (by have := s.old b hb; omega)]
    · rw [List.getElem?_append_left (List.getElem?_eq_some_iff.1 ho).1]; exact ho
    · have := (List.getElem?_eq_some_iff.1 ho).1
      exact ⟨upd_ne _ _ (by omega), upd_ne _ _ (by omega)⟩
  refine ⟨fr, ?_⟩
  have look : ∀ (o : Nat) (cs' : List AV), (M ++ [AO.mem cs])[o]? = some (.mem cs') → (M[o]? = some (.mem cs') ∧ o < M.length) ∨ (o = M.length ∧ cs' = cs) := by
    intro o cs' ho
    rcases Nat.lt_or_ge o M.length with hlt | hge
    · rw [List.getElem?_append_left hlt] at ho; exact .inl ⟨ho, hlt⟩
    · rw [List.getElem?_append_right hge] at ho
      rcases Nat.lt_or_ge 0 (o - M.length) with h1 | h1
      · rw [List.getElem?_eq_none (by simp; omega)] at ho; cases ho
      · have : o - M.length = 0 := by omega
        rw [this] at ho; simp at ho
        exact .inr ⟨by omega, ho.symm⟩
  refine ⟨?_, ?_, ?_, ?_⟩
  · intro o cs' ho
    rcases look o cs' ho with ⟨ho, hlt⟩ | ⟨rfl, rfl⟩
    · obtain ⟨cur, t, hb, hs, hl', hc⟩ := s.live o cs' ho
      have e1 : c'.σ o = c.σ o := upd_ne _ _ (by omega)
      have e2 : c'.cap o = c.cap o := upd_ne _ _ (by omega)
      refine ⟨cur, t, ?_, by rw [e2]; exact hs, hl', fun i a hi => ?_⟩
      · rw [e1, Array.getElem?_push, if_neg (by have := lt_of_get hb; omega)]; exact hb
      · obtain ⟨u, hu, hr⟩ := hc i a hi
        exact ⟨u, hu, hr.mono fr⟩
    · refine ⟨vs, ty, ?_, (upd_same _ _ _).symm, hl, fun i a hi => ?_⟩
      · show (h.push _)[upd c.σ M.length h.size M.length]? = _
        rw [upd_same]; simp
      · obtain ⟨u, hu, hr⟩ := hv i a hi
        exact ⟨u, hu, hr.mono fr⟩
  · intro o o' cs1 cs2 h1 h2 e
    rcases look o cs1 h1 with ⟨h1, l1⟩ | ⟨rfl, _⟩ <;> rcases look o' cs2 h2 with ⟨h2, l2⟩ | ⟨rfl, _⟩
    · have e1 : c'.σ o = c.σ o := upd_ne _ _ (by omega)
      have e2 : c'.σ o' = c.σ o' := upd_ne _ _ (by omega)
      exact s.inj o o' cs1 cs2 h1 h2 (by rw [← e1, ← e2]; exact e)
    · have e1 : c'.σ o = c.σ o := upd_ne _ _ (by omega)
      have e2 : c'.σ M.length = h.size := upd_same _ _ _
      have := s.lt h1
      omega
    · have e1 : c'.σ o' = c.σ o' := upd_ne _ _ (by omega)
      have e2 : c'.σ M.length = h.size := upd_same _ _ _
      have := s.lt h2
      omega
    · rfl
  · intro o cs' ho hp
    rcases look o cs' ho with ⟨ho, hlt⟩ | ⟨rfl, _⟩
    · have e1 : c'.σ o = c.σ o := upd_ne _ _ (by omega)
      rw [e1] at hp
      exact s.apart o cs' ho hp
    · have e2 : c'.σ M.length = h.size := upd_same _ _ _
      rw [e2] at hp
      have := s.old _ hp
      omega
  · intro b hb
    have := s.old b hb
    simp; omega

/-- An object's cells are others, or more, in the same block. -/
theorem Sim.update {c : Ctx} {M : List AO} {h : Array Obj} (s : Sim c M h) (o : Nat) (cs cs' : List AV) (cur' : Array Value) (ty : TypeId) (ho : M[o]? = some (.mem cs)) (hl : cs.length ≤ cs'.length)
    (hs : cur'.size = c.cap o) (hl' : cs'.length ≤ cur'.size) (hv : ∀ (i : Nat) (a : AV), cs'[i]? = some a → ∃ u, cur'[i]? = some u ∧ R c M h a u) (h' : Array Obj) (hsz : h'.size = h.size)
    (hh : h'[c.σ o]? = some (.cells cur' ty (0, 0))) (hh' : ∀ b : Nat, b ≠ c.σ o → h'[b]? = h[b]?) :
    Fr c M h c (M.set o (.mem cs')) h' ∧ Sim c (M.set o (.mem cs')) h' := by
  have hlt := (List.getElem?_eq_some_iff.1 ho).1
  have fr : Fr c M h c (M.set o (.mem cs')) h' := by
    refine ⟨fun _ hb => hb, fun b hb => hh' b (fun e => s.apart o cs ho (e ▸ hb)), fun o1 ob ho1 hnr => ?_⟩
    by_cases e : o1 = o
    · subst e
      rw [ho] at ho1
      obtain rfl := Option.some.inj ho1
      refine ⟨.mem cs', by rw [List.getElem?_set_self hlt], (fun h => by cases h), fun cs2 e2 => ⟨cs, rfl, ?_, fun _ => ⟨rfl, rfl⟩⟩⟩
      injection e2 with e2
      subst e2; exact hl
    · exact ⟨ob, by rw [List.getElem?_set_ne (by omega)]; exact ho1, hnr, fun cs2 e2 => ⟨cs2, e2, Nat.le_refl _, fun _ => ⟨rfl, rfl⟩⟩⟩
  have look : ∀ (o1 : Nat) (cs1 : List AV), (M.set o (.mem cs'))[o1]? = some (.mem cs1) → (o1 = o ∧ cs1 = cs') ∨ (o1 ≠ o ∧ M[o1]? = some (.mem cs1)) := by
    intro o1 cs1 h1
    by_cases e : o1 = o
    · subst e
      rw [List.getElem?_set_self hlt] at h1
      injection h1 with h1; injection h1 with h1
      exact .inl ⟨rfl, h1.symm⟩
    · rw [List.getElem?_set_ne (by omega)] at h1
      exact .inr ⟨e, h1⟩
  have alive : ∀ (o1 : Nat) (cs1 : List AV), (M.set o (.mem cs'))[o1]? = some (.mem cs1) → ∃ cs2, M[o1]? = some (.mem cs2) := by
    intro o1 cs1 h1
    rcases look o1 cs1 h1 with ⟨rfl, _⟩ | ⟨_, h2⟩
    · exact ⟨cs, ho⟩
    · exact ⟨cs1, h2⟩
  refine ⟨fr, ?_, ?_, ?_, fun b hb => by rw [hsz]; exact s.old b hb⟩
  · intro o1 cs1 h1
    rcases look o1 cs1 h1 with ⟨rfl, rfl⟩ | ⟨hne, h2⟩
    · refine ⟨cur', ty, hh, hs, hl', fun i a hi => ?_⟩
      obtain ⟨u, hu, hr⟩ := hv i a hi
      exact ⟨u, hu, hr.mono fr⟩
    · obtain ⟨cur, t, hb, hs1, hl1, hc⟩ := s.live o1 cs1 h2
      refine ⟨cur, t, ?_, hs1, hl1, fun i a hi => ?_⟩
      · rw [hh' _ (fun e => hne (s.inj o1 o cs1 cs h2 ho e))]; exact hb
      · obtain ⟨u, hu, hr⟩ := hc i a hi
        exact ⟨u, hu, hr.mono fr⟩
  · intro o1 o2 cs1 cs2 h1 h2 e
    obtain ⟨d1, h1⟩ := alive o1 cs1 h1
    obtain ⟨d2, h2⟩ := alive o2 cs2 h2
    exact s.inj o1 o2 d1 d2 h1 h2 e
  · intro o1 cs1 h1
    obtain ⟨d1, h1⟩ := alive o1 cs1 h1
    exact s.apart o1 d1 h1

/-- An object grows into a new block. -/
theorem Sim.realloc {c : Ctx} {M : List AO} {h : Array Obj} (s : Sim c M h) (o : Nat) (cs cs' : List AV) (vs : Array Value) (ty : TypeId) (ho : M[o]? = some (.mem cs)) (hl : cs.length < cs'.length)
    (hl' : cs'.length ≤ vs.size) (hv : ∀ (i : Nat) (a : AV), cs'[i]? = some a → ∃ u, vs[i]? = some u ∧ R c M h a u) :
    let c' : Ctx := { σ := upd c.σ o h.size, cap := upd c.cap o vs.size, φ := c.φ }
    Fr c M h c' (M.set o (.mem cs')) (h.push (.cells vs ty)) ∧ Sim c' (M.set o (.mem cs')) (h.push (.cells vs ty)) := by
  intro c'
  have hlt := (List.getElem?_eq_some_iff.1 ho).1
  have fr : Fr c M h c' (M.set o (.mem cs')) (h.push (.cells vs ty)) := by
    refine ⟨fun _ hb => hb, fun b hb => ?_, fun o1 ob ho1 hnr => ?_⟩
    · rw [Array.getElem?_push, if_neg (by have := s.old b hb; omega)]
    by_cases e : o1 = o
    · subst e
      rw [ho] at ho1
      obtain rfl := Option.some.inj ho1
      refine ⟨.mem cs', by rw [List.getElem?_set_self hlt], (fun h => by cases h), fun cs2 e2 => ⟨cs, rfl, ?_, fun he => ?_⟩⟩
      · injection e2 with e2
        subst e2; omega
      · injection e2 with e2
        subst e2; omega
    · exact ⟨ob, by rw [List.getElem?_set_ne (by omega)]; exact ho1, hnr, fun cs2 e2 => ⟨cs2, e2, Nat.le_refl _, fun _ => ⟨upd_ne _ _ e, upd_ne _ _ e⟩⟩⟩
  have look : ∀ (o1 : Nat) (cs1 : List AV), (M.set o (.mem cs'))[o1]? = some (.mem cs1) → (o1 = o ∧ cs1 = cs') ∨ (o1 ≠ o ∧ M[o1]? = some (.mem cs1)) := by
    intro o1 cs1 h1
    by_cases e : o1 = o
    · subst e
      rw [List.getElem?_set_self hlt] at h1
      injection h1 with h1; injection h1 with h1
      exact .inl ⟨rfl, h1.symm⟩
    · rw [List.getElem?_set_ne (by omega)] at h1
      exact .inr ⟨e, h1⟩
  refine ⟨fr, ?_, ?_, ?_, ?_⟩
  · intro o1 cs1 h1
    rcases look o1 cs1 h1 with ⟨rfl, rfl⟩ | ⟨hne, h2⟩
    · refine ⟨vs, ty, ?_, (upd_same _ _ _).symm, hl', fun i a hi => ?_⟩
      · show (h.push _)[upd c.σ o1 h.size o1]? = _
        rw [upd_same]; simp
      · obtain ⟨u, hu, hr⟩ := hv i a hi
        exact ⟨u, hu, hr.mono fr⟩
    · obtain ⟨cur, t, hb, hs1, hl1, hc⟩ := s.live o1 cs1 h2
      have e1 : c'.σ o1 = c.σ o1 := upd_ne _ _ hne
      have e2 : c'.cap o1 = c.cap o1 := upd_ne _ _ hne
      refine ⟨cur, t, ?_, by rw [e2]; exact hs1, hl1, fun i a hi => ?_⟩
      · rw [e1, Array.getElem?_push, if_neg (by have := lt_of_get hb; omega)]; exact hb
      · obtain ⟨u, hu, hr⟩ := hc i a hi
        exact ⟨u, hu, hr.mono fr⟩
  · intro o1 o2 cs1 cs2 h1 h2 e
    rcases look o1 cs1 h1 with ⟨p1, _⟩ | ⟨n1, m1⟩ <;> rcases look o2 cs2 h2 with ⟨p2, _⟩ | ⟨n2, m2⟩
    · rw [p1, p2]
    · have e1 : c'.σ o2 = c.σ o2 := upd_ne _ _ n2
      have e2 : c'.σ o1 = h.size := by rw [p1]; exact upd_same _ _ _
      have := s.lt m2
      omega
    · have e1 : c'.σ o1 = c.σ o1 := upd_ne _ _ n1
      have e2 : c'.σ o2 = h.size := by rw [p2]; exact upd_same _ _ _
      have := s.lt m1
      omega
    · have e1 : c'.σ o1 = c.σ o1 := upd_ne _ _ n1
      have e2 : c'.σ o2 = c.σ o2 := upd_ne _ _ n2
      exact s.inj o1 o2 cs1 cs2 m1 m2 (by rw [← e1, ← e2]; exact e)
  · intro o1 cs1 h1 hp
    rcases look o1 cs1 h1 with ⟨rfl, _⟩ | ⟨n1, h1⟩
    · have e2 : c'.σ o1 = h.size := upd_same _ _ _
      rw [e2] at hp
      have := s.old _ hp
      omega
    · have e1 : c'.σ o1 = c.σ o1 := upd_ne _ _ n1
      rw [e1] at hp
      exact s.apart o1 cs1 h1 hp
  · intro b hb
    have := s.old b hb
    simp; omega

/-- An object is written to no more: it is told by what it holds. -/
theorem Sim.freeze {c : Ctx} {M : List AO} {h : Array Obj} (s : Sim c M h) (o : Nat) (cs : List AV) (ho : M[o]? = some (.mem cs)) :
    let c' : Ctx := { c with φ := fun b => c.φ b ∨ b = c.σ o }
    Fr c M h c' (M.set o .dead) h ∧ Sim c' (M.set o .dead) h := by
  intro c'
  have hlt := (List.getElem?_eq_some_iff.1 ho).1
  have look : ∀ (o1 : Nat) (cs1 : List AV), (M.set o .dead)[o1]? = some (.mem cs1) → o1 ≠ o ∧ M[o1]? = some (.mem cs1) := by
    intro o1 cs1 h1
    by_cases e : o1 = o
    · subst e
      rw [List.getElem?_set_self hlt] at h1
      injection h1 with h1; cases h1
    · rw [List.getElem?_set_ne (by omega)] at h1
      exact ⟨e, h1⟩
  have fr : Fr c M h c' (M.set o .dead) h := by
    refine ⟨fun _ hb => .inl hb, fun b hb => rfl, fun o1 ob ho1 hnr => ?_⟩
    by_cases e : o1 = o
    · subst e
      exact ⟨.dead, by rw [List.getElem?_set_self hlt], (fun h => by cases h), fun cs2 e2 => by cases e2⟩
    · exact ⟨ob, by rw [List.getElem?_set_ne (by omega)]; exact ho1, hnr, fun cs2 e2 => ⟨cs2, e2, Nat.le_refl _, fun _ => ⟨rfl, rfl⟩⟩⟩
  refine ⟨fr, ?_, ?_, ?_, ?_⟩
  · intro o1 cs1 h1
    obtain ⟨hne, h2⟩ := look o1 cs1 h1
    obtain ⟨cur, t, hb, hs1, hl1, hc⟩ := s.live o1 cs1 h2
    refine ⟨cur, t, hb, hs1, hl1, fun i a hi => ?_⟩
    obtain ⟨u, hu, hr⟩ := hc i a hi
    exact ⟨u, hu, hr.mono fr⟩
  · intro o1 o2 cs1 cs2 h1 h2 e
    exact s.inj o1 o2 cs1 cs2 (look o1 cs1 h1).2 (look o2 cs2 h2).2 e
  · intro o1 cs1 h1 hp
    obtain ⟨hne, h2⟩ := look o1 cs1 h1
    rcases hp with hp | hp
    · exact s.apart o1 cs1 h2 hp
    · exact hne (s.inj o1 o cs1 cs h2 ho hp)
  · intro b hb
    rcases hb with hb | rfl
    · exact s.old b hb
    · exact s.lt ho

/-- A value that names objects below n alone. -/
inductive Cl (n : Nat) : AV → Prop
  | any : Cl n .any
  | bool (b : Bool) : Cl n (.bool b)
  | int (k : IntKind) (x : Int) : Cl n (.int k x)
  | str (s : ByteArray) : Cl n (.str s)
  | nilp : Cl n .nilp
  | nili : Cl n .nili
  | nilf : Cl n .nilf
  | nils : Cl n .nils
  | ifc : Cl n .ifc
  | ptr (o off g : Nat) (h : o < n) : Cl n (.ptr o off g)
  | fp (cs : List AV) (h : ∀ (i : Nat) (a : AV), cs[i]? = some a → Cl n a) : Cl n (.fp cs)
  | sl (k o off len g : Nat) (h : o < n) : Cl n (.sl k o off len g)
  | fz (k : Nat) (xs : List AV) (h : ∀ (i : Nat) (a : AV), (flat xs)[i]? = some a → Cl n a) : Cl n (.fz k xs)
  | fn (f : FuncId) (cs : List AV) (h : ∀ (i : Nat) (a : AV), cs[i]? = some a → Cl n a) : Cl n (.fn f cs)
  | agg (cs : List AV) (h : ∀ (i : Nat) (a : AV), cs[i]? = some a → Cl n a) : Cl n (.agg cs)
  | tup (cs : List AV) (h : ∀ (i : Nat) (a : AV), cs[i]? = some a → Cl n a) : Cl n (.tup cs)

theorem Cl.mono {n m : Nat} (hnm : n ≤ m) {a : AV} (h : Cl n a) : Cl m a := by
  induction h with
  | any => exact .any
  | bool b => exact .bool b
  | int k x => exact .int k x
  | str s => exact .str s
  | nilp => exact .nilp
  | nili => exact .nili
  | nilf => exact .nilf
  | nils => exact .nils
  | ifc => exact .ifc
  | ptr o off g h => exact .ptr o off g (by omega)
  | fp cs h ih => exact .fp cs ih
  | sl k o off len g h => exact .sl k o off len g (by omega)
  | fz k xs h ih => exact .fz k xs ih
  | fn f cs h ih => exact .fn f cs ih
  | agg cs h ih => exact .agg cs ih
  | tup cs h ih => exact .tup cs ih

end Go.Ax
