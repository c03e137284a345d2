/- What an argument that is read is told as. -/
import Derived.Test.YtnbfoiidlbfbeaaGreatP12
import Derived.ChangeArms
set_option linter.unusedVariables false
set_option linter.unusedSimpArgs false
namespace Go.Ax
open Go.Proofs

/-- An element of a row, out of its cells. -/
def pk (E : Env) (e : TypeId) (l : List AV) : AV := match E.tab e with
  | some (.st ..) => .agg l
  | _ => l.headD .any
def sizeT (E : Env) (t : TypeId) : Nat := match E.tab t with
  | some d => d.size
  | none => 0
mutual
/-- What cells of a type hold. -/
inductive Has (E : Env) : TypeId → List AV → Prop
  | int {t : TypeId} {k : IntKind} {n : Int} (ht : E.tab t = some (.int k)) (hw : (Lit.int k n).wf = true) : Has E t [.int k n]
  | bool {t : TypeId} {b : Bool} (ht : E.tab t = some .bool) : Has E t [.bool b]
  | str {t : TypeId} {s : ByteArray} (ht : E.tab t = some .str) (hl : s.size ≤ maxLen) : Has E t [.str s]
  | sl {t e : TypeId} {k b : Nat} {z : List Value} {xs : List AV} (ht : E.tab t = some (.sl e k b z)) (hl : xs.length ≤ maxLen) (h : HasE E e k xs) : Has E t [.fz k xs]
  | st {t : TypeId} {fs : List (Nat × TypeId)} {size : Nat} {z : List Value} {al : List AV} (ht : E.tab t = some (.st fs size z)) (h : HasL E fs al) : Has E t al
inductive HasL (E : Env) : List (Nat × TypeId) → List AV → Prop
  | nil : HasL E [] []
  | cons {p : Nat × TypeId} {fs : List (Nat × TypeId)} {a b : List AV} (h : Has E p.2 a) (t : HasL E fs b) : HasL E (p :: fs) (a ++ b)
inductive HasE (E : Env) : TypeId → Nat → List AV → Prop
  | nil {e : TypeId} {k : Nat} : HasE E e k []
  | cons {e : TypeId} {k : Nat} {al : List AV} {xs : List AV} (h : Has E e al) (hk : al.length = k) (hc : (pk E e al).cells = al) (t : HasE E e k xs) : HasE E e k (pk E e al :: xs)
end

/-- Fields that lie one behind the other. -/
def tiles (E : Env) : Nat → List (Nat × TypeId) → Option Nat
  | off, [] => some off
  | off, p :: fs => if p.1 = off then tiles E (off + sizeT E p.2) fs else none
/-- Types that are told, down to the last. -/
def told (E : Env) : Nat → TypeId → Bool
  | 0, _ => false
  | n + 1, t => match E.tab t with
    | some (.int _) => true
    | some .bool => true
    | some .str => true
    | some (.sl e k _ _) => told E n e && decide (sizeT E e = k)
    | some (.st fs size _) => decide (tiles E 0 fs = some size) && fs.all fun p => told E n p.2
    | _ => false
def allCtx (w : World) : Ctx := { σ := fun _ => 0, cap := fun _ => 0, φ := fun b => b < w.heap.size }
theorem tab_size {E : Env} {t : TypeId} {d : TD} (h : E.tab t = some d) : E.P.cellsOf t = d.size := by
  have := (E.ok t d h).info
  unfold InfoIs at this
  obtain ⟨i, hi, he⟩ := Option.map_eq_some_iff.1 this
  simp only [Prod.mk.injEq] at he
  unfold Program.cellsOf
  rw [hi]; simp [he.1]
theorem mapM_get {α β : Type} {f : α → Option β} : ∀ {l : List α} {r : List β}, l.mapM f = some r → r.length = l.length ∧ ∀ (i : Nat) (a : α), l[i]? = some a → f a = r[i]?
  | [], r, h => by simp at h; subst h; exact ⟨rfl, fun i a ha => by simp at ha⟩
  | x :: l, r, h => by
    rw [List.mapM_cons] at h
    simp only [Option.bind_eq_bind, Option.bind_eq_some_iff, Option.pure_def, Option.some.injEq] at h
    obtain ⟨y, hy, ys, hys, rfl⟩ := h
    obtain ⟨h1, h2⟩ := mapM_get hys
    refine ⟨by simp [h1], fun i a ha => ?_⟩
    cases i with
    | zero => simp at ha; subst ha; simpa using hy
    | succ i => simpa using h2 i a (by simpa using ha)
theorem cells_get {w : World} {base n : Nat} {a : Addr} {cs : List Value} (h : w.cells? base a n = some cs) : cs.length = n ∧ ∀ i, i < n → w.cell? (a.add i) = cs[i]? := by
  unfold World.cells? at h
  split at h
  · obtain ⟨h1, h2⟩ := mapM_get h
    exact ⟨by simpa using h1, fun i hi => h2 i i (by simp [hi])⟩
  · cases h
theorem Rl.take_drop {c : Ctx} {M : List AO} {h : Array Obj} {a : List AV} {cs : List Value} {off n : Nat} (r : Rl c M h a ((cs.drop off).take n)) : ∀ (i : Nat) (x : AV), a[i]? = some x → ∃ u, cs[off + i]? = some u ∧ R c M h x u := by
  intro i x hi
  obtain ⟨u, hu, hr⟩ := r.2 i x hi
  rw [List.getElem?_take] at hu
  split at hu
  · rw [List.getElem?_drop] at hu; exact ⟨u, hu, hr⟩
  · cases hu
theorem Has.size {E : Env} (n : Nat) : ∀ {t : TypeId} {al : List AV}, told E n t = true → Has E t al → al.length = sizeT E t := by
  induction n with
  | zero => intro t al h; cases h
  | succ n ih =>
    intro t al htd h
    unfold told at htd
    cases h with
    | int ht _ => simp [sizeT, ht, TD.size]
    | bool ht => simp [sizeT, ht, TD.size]
    | str ht _ => simp [sizeT, ht, TD.size]
    | sl ht _ _ => simp [sizeT, ht, TD.size]
    | st ht h =>
      rename_i fs size z
      rw [ht] at htd
      simp only [Bool.and_eq_true, decide_eq_true_eq, List.all_eq_true] at htd
      simp only [sizeT, ht, TD.size]
      have key : ∀ (fs : List (Nat × TypeId)) (off : Nat) (al : List AV), (∀ p ∈ fs, told E n p.2 = true) → HasL E fs al → ∀ s, tiles E off fs = some s → off + al.length = s := by
        intro fs
        induction fs with
        | nil => intro off al _ h s hs; cases h; simp [tiles] at hs; simpa using hs
        | cons p fs ihf =>
          intro off al hall h s hs
          cases h with
          | cons h t =>
            simp only [tiles] at hs
            split at hs
            · have h1 := ih (hall p (by simp)) h
              have h2 := ihf _ _ (fun q hq => hall q (by simp [hq])) t s hs
              rw [List.length_append]; omega
            · cases hs
      have := key fs 0 al htd.2 h size htd.1
      omega
theorem pk_cells {E : Env} {e : TypeId} {al : List AV} (h : Has E e al) : (pk E e al).cells = al := by
  unfold pk
  cases h with
  | int ht _ => rw [ht]; rfl
  | bool ht => rw [ht]; rfl
  | str ht _ => rw [ht]; rfl
  | sl ht _ _ => rw [ht]; rfl
  | st ht _ => rw [ht]; rfl
theorem HasE.size {E : Env} {e : TypeId} {k : Nat} : ∀ {xs : List AV}, HasE E e k xs → ∀ x ∈ xs, x.cells.length = k
  | [], _, x, hx => by cases hx
  | _ :: xs, .cons h hk hc t, x, hx => by
    cases hx with
    | head => rw [hc]; exact hk
    | tail _ hx => exact HasE.size t x hx
theorem add_add (a : Addr) (i j : Nat) : (a.add i).add j = a.add (i + j) := by
  unfold Addr.add
  by_cases h1 : i = 0
  · subst h1; simp
  · by_cases h2 : j = 0
    · subst h2; simp [h1]
    · rw [if_neg h1, if_neg h2, if_neg (by omega)]; simp [Nat.add_assoc]
theorem trod_has {E : Env} {H : Type} {enc : TypeId × Value → H} {w : World} {spare : Nat → Bool} {held : Bool} (n : Nat) : ∀ (t : TypeId) (fuel : Nat) (cs : List Value) (x : DataW H × List MemPlace), told E n t = true →
    DataW.trod enc E.P w 0 spare held fuel t cs = some x → ∃ al, Rl (allCtx w) [] w.heap al cs ∧ Has E t al := by
  induction n with
  | zero => intro t fuel cs x h; cases h
  | succ n ih =>
    intro t fuel cs x htd h
    unfold told at htd
    split at htd
    · rename_i k ht
      obtain ⟨m, rfl, _, hw⟩ := DataW.trod_int (E.ok t _ ht).1 h
      exact ⟨[.int k m], .cons (.int _ _) (.nil ..), .int ht hw⟩
    · rename_i ht
      obtain ⟨b, rfl, _⟩ := DataW.trod_bool (E.ok t _ ht).1 h
      exact ⟨[.bool b], .cons (.bool _) (.nil ..), .bool ht⟩
    · rename_i ht
      obtain ⟨s, rfl, _, hl⟩ := DataW.trod_string (E.ok t _ ht).1 h
      exact ⟨[.str s], .cons (.str _) (.nil ..), .str ht hl⟩
    · rename_i e k b z ht
      simp only [Bool.and_eq_true, decide_eq_true_eq] at htd
      obtain ⟨hte, hse⟩ := htd
      rcases DataW.trod_slice (E.ok t _ ht).1.1 h with ⟨rfl, _⟩ | ⟨a, len, cap, elems, rest, m, _, rfl, _, _, hlc, hcm, hel, hat, _⟩
      · exact ⟨[.fz k []], .cons (.fz0 k none 0) (.nil ..), .sl ht (Nat.zero_le _) .nil⟩
      · obtain ⟨d, hd⟩ : ∃ d, E.tab e = some d := by
          cases n with
          | zero => cases hte
          | succ n =>
            unfold told at hte
            cases hd : E.tab e with
            | none => rw [hd] at hte; cases hte
            | some d => exact ⟨d, rfl⟩
        have hck : E.P.cellsOf e = k := by rw [tab_size hd, ← hse]; unfold sizeT; rw [hd]
        have hk0 : 0 < k := (E.ok t _ ht).2.2.2.1
        rw [hck] at hat
        have each : ∀ i, i < len → ∃ al, al.length = k ∧ Has E e al ∧ ∀ (q : Nat) (b : AV), al[q]? = some b → ∃ u, w.cell? (a.add (i * k + q)) = some u ∧ R (allCtx w) [] w.heap b u := by
          intro i hi
          have h1 := hat i hi
          rw [List.getElem?_eq_getElem (by omega), Option.bind_eq_some_iff] at h1
          obtain ⟨cs', hcs, htr⟩ := h1
          obtain ⟨al, hal, hhas⟩ := ih e m cs' _ hte htr
          obtain ⟨hcl, hcg⟩ := cells_get hcs
          refine ⟨al, by rw [hal.1, hcl], hhas, fun q b hq => ?_⟩
          obtain ⟨u, hu, hr⟩ := hal.2 q b hq
          have hqlt : q < k := by rw [← hcl]; exact (List.getElem?_eq_some_iff.1 hu).1
          refine ⟨u, ?_, hr⟩
          have := hcg q hqlt
          rw [add_add] at this
          rw [this]; exact hu
        have all : ∀ (j s : Nat), s + j = len → ∃ xs : List AV, xs.length = j ∧ HasE E e k xs ∧ ∀ (q : Nat) (b : AV), (flat xs)[q]? = some b → ∃ u, w.cell? (a.add (s * k + q)) = some u ∧ R (allCtx w) [] w.heap b u := by
          intro j
          induction j with
          | zero => intro s _; exact ⟨[], rfl, .nil, fun q b hq => by simp [flat] at hq⟩
          | succ j ihj =>
            intro s hs
            obtain ⟨al, h1, h2, h3⟩ := each s (by omega)
            obtain ⟨xs, h4, h5, h6⟩ := ihj (s + 1) (by omega)
            have hc := pk_cells h2
            refine ⟨pk E e al :: xs, by simp [h4], .cons h2 h1 hc h5, fun q b hq => ?_⟩
            have hfl : flat (pk E e al :: xs) = al ++ flat xs := by show (pk E e al).cells ++ flat xs = _; rw [hc]
            rw [hfl] at hq
            rcases Nat.lt_or_ge q k with hlt | hge
            · rw [List.getElem?_append_left (by omega)] at hq; exact h3 q b hq
            · rw [List.getElem?_append_right (by omega), h1] at hq
              obtain ⟨u, hu, hr⟩ := h6 _ b hq
              refine ⟨u, ?_, hr⟩
              rw [show s * k + q = (s + 1) * k + (q - k) from by rw [Nat.succ_mul]; omega]; exact hu
        obtain ⟨xs, hxl, hxe, hxr⟩ := all len 0 (by omega)
        simp only [Nat.zero_mul, Nat.zero_add] at hxr
        refine ⟨[.fz k xs], .cons ?_ (.nil ..), .sl ht (by omega) hxe⟩
        rcases Nat.eq_zero_or_pos len with h0 | h0
        · subst h0
          have : xs = [] := List.eq_nil_of_length_eq_zero hxl
          subst this
          exact .fz0 k _ _
        · have hfl := flat_length hxe.size
          have h00 : (flat xs)[0]? = some ((flat xs).getD 0 .any) := by
            rw [List.getD_eq_getElem?_getD, List.getElem?_eq_getElem (by rw [hfl, hxl]; exact Nat.mul_pos h0 hk0)]; rfl
          obtain ⟨u0, hu0, _⟩ := hxr 0 _ h00
          obtain ⟨B, off, sp⟩ := a
          have hsp : sp = none ∧ ∃ cur ty fr, w.heap[B]? = some (.cells cur ty fr) := by
            have : w.cell? ⟨B, off, sp⟩ = some u0 := hu0
            unfold World.cell? at this
            split at this
            · rename_i cur ty fr hb
              split at this
              · cases this
              · rename_i hs
                exact ⟨by simpa using hs, cur, ty, fr, hb⟩
            · cases this
          obtain ⟨rfl, cur, ty, fr, hb⟩ := hsp
          have hcell : ∀ q, w.cell? ((⟨B, off, none⟩ : Addr).add q) = cur[off + q]? := fun q => by rw [add_plain, cell_of hb]
          subst hxl
          refine .fz k xs B off cap (fun i => cur.getD (off + i) undef) cur ty fr (lt_of_get hb) hb hlc hxe.size (fun i hi => ?_) (fun i b hi => ?_)
          · obtain ⟨u, hu, _⟩ := hxr i _ (by rw [List.getElem?_eq_getElem hi])
            rw [hcell] at hu
            rw [Array.getD_eq_getD_getElem?, hu]; rfl
          · obtain ⟨u, hu, hr⟩ := hxr i b hi
            rw [hcell] at hu
            show R _ _ _ b (cur.getD (off + i) undef)
            rw [Array.getD_eq_getD_getElem?, hu]; exact hr
    · rename_i fs size z ht
      simp only [Bool.and_eq_true, decide_eq_true_eq, List.all_eq_true] at htd
      obtain ⟨htl, hall⟩ := htd
      obtain ⟨u, hu, hp⟩ := Option.map_eq_some_iff.1 (E.ok t _ ht).1.1
      cases u <;> simp at hp
      rename_i fields
      obtain ⟨xs, m, _, _, hlen, hxl, hf⟩ := DataW.trod_struct hu h
      rw [tab_size ht] at hlen
      have each : ∀ p ∈ fs, ∃ al, Has E p.2 al ∧ al.length = sizeT E p.2 ∧ Rl (allCtx w) [] w.heap al ((cs.drop p.1).take (sizeT E p.2)) := by
        intro p hpf
        rw [← hp] at hpf
        simp only [List.mem_map] at hpf
        obtain ⟨f, hff, rfl⟩ := hpf
        obtain ⟨i, hi⟩ := List.getElem?_of_mem hff
        have hi : fields[i]? = some f := by simpa using hi
        have h1 := hf i f hi
        have hilt : i < xs.length := by rw [hxl]; exact (Array.getElem?_eq_some_iff.1 hi).1
        rw [List.getElem?_eq_getElem hilt] at h1
        have hto := hall (f.offset, f.type) (by rw [← hp]; exact List.mem_map_of_mem hff)
        obtain ⟨d, hd⟩ : ∃ d, E.tab f.type = some d := by
          cases n with
          | zero => cases hto
          | succ n =>
            unfold told at hto
            cases hd : E.tab f.type with
            | none => rw [hd] at hto; cases hto
            | some d => exact ⟨d, rfl⟩
        have hsz : E.P.cellsOf f.type = sizeT E f.type := by rw [tab_size hd]; unfold sizeT; rw [hd]
        rw [hsz] at h1
        obtain ⟨al, h2, h3⟩ := ih f.type m _ _ hto h1
        exact ⟨al, h3, h3.size n hto, h2⟩
      have all : ∀ (fs : List (Nat × TypeId)) (off s : Nat), (∀ p ∈ fs, ∃ al, Has E p.2 al ∧ al.length = sizeT E p.2 ∧ Rl (allCtx w) [] w.heap al ((cs.drop p.1).take (sizeT E p.2))) → tiles E off fs = some s →
          ∃ al, HasL E fs al ∧ off + al.length = s ∧ ∀ (i : Nat) (x : AV), al[i]? = some x → ∃ u, cs[off + i]? = some u ∧ R (allCtx w) [] w.heap x u := by
        intro fs
        induction fs with
        | nil => intro off s _ hs; simp [tiles] at hs; exact ⟨[], .nil, by simpa using hs, fun i x hi => by simp at hi⟩
        | cons p fs ihf =>
          intro off s hall hs
          simp only [tiles] at hs
          split at hs
          · rename_i hpo
            obtain ⟨a1, h1, h2, h3⟩ := hall p (by simp)
            obtain ⟨a2, h4, h5, h6⟩ := ihf _ s (fun q hq => hall q (by simp [hq])) hs
            refine ⟨a1 ++ a2, .cons h1 h4, by rw [List.length_append]; omega, fun i x hi => ?_⟩
            rcases Nat.lt_or_ge i a1.length with hlt | hge
            · rw [List.getElem?_append_left hlt] at hi
              obtain ⟨u, hu, hr⟩ := h3.take_drop i x hi
              exact ⟨u, by rw [← hpo]; exact hu, hr⟩
            · rw [List.getElem?_append_right hge] at hi
              obtain ⟨u, hu, hr⟩ := h6 _ x hi
              exact ⟨u, by rw [show off + i = off + sizeT E p.2 + (i - a1.length) from by omega]; exact hu, hr⟩
          · cases hs
      obtain ⟨al, h1, h2, h3⟩ := all fs 0 size each htl
      simp only [Nat.zero_add] at h2 h3
      exact ⟨al, ⟨by rw [h2, hlen]; rfl, h3⟩, .st ht h1⟩
    · cases htd
end Go.Ax
