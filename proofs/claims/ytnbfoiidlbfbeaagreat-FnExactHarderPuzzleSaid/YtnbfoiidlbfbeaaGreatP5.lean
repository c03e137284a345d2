/- Chapter 2: rounds. -/
import Derived.Test.YtnbfoiidlbfbeaaGreatP4
set_option linter.unusedVariables false
set_option linter.unusedSimpArgs false
namespace Go.Ax
open Go.Proofs

def srt (l : List Int) : List Int := insTo (fun x y => decide (x < y)) (l.length - 1) l
theorem srt_length (l : List Int) : (srt l).length = l.length := by unfold srt; exact insTo_length ..
/-- Where the trips, the rounds and what is even stand; behind n0 alone. -/
structure Out (M : List AO) (n0 oo : Nat) (L : List (List Int)) (r : ByteArray) (e : Bool) (tr : AV) : Prop where
  le : n0 ≤ oo
  obj : M[oo]? = some (.mem [tr, .str r, .bool e])
  trs : (L = [] ∧ tr = .nils) ∨ ∃ ot, tr = .sl 1 ot 0 L.length L.length ∧ n0 ≤ ot ∧ ot ≠ oo ∧ M[ot]? = some (.mem (L.map fzi))
theorem lt_of_obj {M : List AO} {o : Nat} {x : AO} (h : M[o]? = some x) : o < M.length := (List.getElem?_eq_some_iff.1 h).1

theorem trip_ok (xs : List Int) (o n0 oo : Nat) (L : List (List Int)) (r : ByteArray) (e : Bool) (tr : AV) (M : List AO) (hl : xs.length ≤ 12) (hL : L.length ≤ 1000) (ho : M[o]? = some (.mem (ints xs))) (hn : n0 ≤ o) (hoo : o ≠ oo) (out : Out M n0 oo L r e tr) (htr : ∀ k len g, tr ≠ .sl k o 0 len g) :
    AC E 80 [.sl 1 o 0 xs.length xs.length, .ptr oo 0 3] M (fun r' M' => r' = .tup [] ∧ (∃ tr', Out M' n0 oo (L ++ [srt xs]) r e tr') ∧ M.length ≤ M'.length ∧ ∀ q, q < n0 → M'[q]? = M[q]?) := by
  refine AC.body (fn := Tryz.f80) Tryz.func80 rfl rfl (by simp [Tryz.f80]) fun hcl => ?_
  simp only [Tryz.f80]
  repeat refine AW.seq ?_
  refine AW.ops ?_
  simp (decide := true) only [ax, tabs, s0, Int.reduceToNat]
  have hlt := lt_of_obj ho
  have hs := Sort_ok xs o M hl hlt
  rw [set_self ho] at hs
  refine AC.det (hs) ?_
  try (simp (decide := true) only [ax, tabs, s0, Int.reduceToNat])
  refine AW.freezeAt 0 (xs := ints (srt xs)) (cs := ints (srt xs)) (o := o) (k := 1) (len := xs.length) (by simp (decide := true) only [ax, tabs, s0, Int.reduceToNat, ints_length, srt_length]) (by rw [List.getElem?_set_self hlt]; rfl) (by rw [ints_length, srt_length]) (fun x hx => (Els.ints 0 _).size x hx) (flat_ints _) ?_
  rw [List.set_set]
  have h_oo : (M.set o .dead)[oo]? = some (.mem [tr, .str r, .bool e]) := by rw [List.getElem?_set_ne hoo]; exact out.obj
  have hq : ∀ q, q < n0 → (M.set o .dead)[q]? = M[q]? := fun q hq => List.getElem?_set_ne (by omega)
  have hlen : (M.set o .dead).length = M.length := by simp
  have e1 : (L.length + 1) * 24 ≤ 140737488355328 := by omega
  rcases out.trs with ⟨rfl, rfl⟩ | ⟨ot, rfl, hot, hne, hrow⟩
  · generalize hM2 : M.set o .dead = M2 at h_oo hq hlen ⊢
    have hlt2 := lt_of_obj h_oo
    have ha : ∀ x, (M2 ++ x)[oo]? = some (.mem [.nils, .str r, .bool e]) := fun x => by rw [List.getElem?_append_left hlt2]; exact h_oo
    repeat refine AW.seq ?_
    refine AW.lits [0, 0, 2, 2] ?_
    simp (decide := true) only [ax, axd, tabs, s0, Int.reduceToNat, h_oo, ha]
    have l1 : oo < (M2 ++ [AO.mem [AV.fz 1 (ints (srt xs))]]).length := by simp; omega
    refine leftN (r := .tup []) (.inl rfl) (by simp; omega) (by simp (decide := true) only [ax, tabs, s0, Int.reduceToNat]; rfl) (by simp (decide := true) only [ax, tabs, s0, Int.reduceToNat]) (.of_scal rfl) ⟨rfl, ⟨_, out.le, List.getElem?_set_self l1, .inr ⟨M2.length, rfl, by have := out.le; omega, by omega, ?_⟩⟩, by simp; omega, fun q hq2 => ?_⟩
    · rw [List.getElem?_set_ne (by omega)]; simp [fzi]
    · have := out.le
      rw [List.getElem?_set_ne (by omega), List.getElem?_append_left (by omega)]; exact hq q hq2
  · have hot2 : ot ≠ o := fun h => htr 1 L.length L.length (by rw [h])
    have h_ot : (M.set o .dead)[ot]? = some (.mem (L.map fzi)) := by rw [List.getElem?_set_ne (Ne.symm hot2)]; exact hrow
    generalize hM2 : M.set o .dead = M2 at h_oo hq hlen h_ot ⊢
    have ha : ∀ x, (M2.set ot x)[oo]? = some (.mem [.sl 1 ot 0 L.length L.length, .str r, .bool e]) := fun x => by rw [List.getElem?_set_ne hne]; exact h_oo
    have hlt2 := lt_of_obj h_oo
    have hlt3 := lt_of_obj h_ot
    repeat refine AW.seq ?_
    refine AW.lits [0, 0, 2, 2] ?_
    simp (decide := true) only [ax, axd, tabs, s0, Int.reduceToNat, h_oo, h_ot, ha, List.length_map, e1]
    refine leftN (r := .tup []) (.inl rfl) (by simp; omega) (by simp (decide := true) only [ax, tabs, s0, Int.reduceToNat]; rfl) (by simp (decide := true) only [ax, tabs, s0, Int.reduceToNat]) (.of_scal rfl) ⟨rfl, ⟨_, out.le, List.getElem?_set_self (by simpa using hlt2), .inr ⟨ot, by simp, hot, hne, ?_⟩⟩, by simp; omega, fun q hq2 => ?_⟩
    · rw [List.getElem?_set_ne (Ne.symm hne), List.getElem?_set_self hlt3]; simp [fzi]
    · have := out.le
      rw [List.getElem?_set_ne (by omega), List.getElem?_set_ne (by omega)]; exact hq q hq2

/-! ### All rounds -/
abbrev CrS := List (List Int) × ByteArray × Bool
def gi (l : List Int) (i : Nat) : Int := l.getD i 0
def tm (ts : List Int) (k : Int) : Int := ts.getD k.toNat 0
def sF : ByteArray := { data := #[102] }
def sE : ByteArray := { data := #[101] }
/-- One round: two of left people are brought over. -/
def round1 (ts od : List Int) (esc : Bool) (left : Nat) (s : CrS) : CrS :=
  let twice := 2 * tm ts (gi od 1)
  let both := tm ts (gi od 0) + tm ts (gi od (left - 2))
  if (decide (twice < both) && !esc) = true then (s.1 ++ [srt [gi od 0, gi od 1]] ++ [srt [gi od 0]] ++ [srt [gi od (left - 2), gi od (left - 1)]] ++ [srt [gi od 1]], s.2.1 ++ sF, s.2.2 || decide (twice = both))
  else (s.1 ++ [srt [gi od 0, gi od (left - 1)]] ++ [srt [gi od 0]] ++ [srt [gi od 0, gi od (left - 2)]] ++ [srt [gi od 0]], s.2.1 ++ sE, s.2.2 || decide (twice = both))
def rounds (ts od : List Int) (esc : Bool) : Nat → Nat → CrS → Nat × CrS
  | 0, left, s => (left, s)
  | f + 1, left, s => if 3 < left then rounds ts od esc f (left - 2) (round1 ts od esc left s) else (left, s)
def last (od : List Int) (left : Nat) (s : CrS) : CrS :=
  if left = 3 then (s.1 ++ [srt [gi od 0, gi od 1]] ++ [srt [gi od 0]] ++ [srt [gi od 0, gi od 2]], s.2)
  else if left = 2 then (s.1 ++ [srt [gi od 0, gi od 1]], s.2)
  else (s.1 ++ [srt [gi od 0]], s.2)
def crossF (ts : List Int) (esc : Bool) : CrS :=
  let od := paceL ts
  let (left, s) := rounds ts od esc od.length od.length ([], ByteArray.empty, false)
  last od left s
theorem crossF_eq (ts : List Int) (esc : Bool) (left : Nat) (s : CrS) (h : rounds ts (paceL ts) esc (paceL ts).length (paceL ts).length ([], ByteArray.empty, false) = (left, s)) : crossF ts esc = last (paceL ts) left s := by
  unfold crossF
  simp only [h]

/-- The memory of cross behind B: where the trips stand. -/
structure MI (B : List AO) (oo : Nat) (s : CrS) (M' : List AO) : Prop where
  out : ∃ tr, Out M' B.length oo s.1 s.2.1 s.2.2 tr
  len : B.length ≤ M'.length
  keep : ∀ q, q < B.length → M'[q]? = B[q]?
theorem MI.set {B : List AO} {oo : Nat} {s : CrS} {M' : List AO} (h : MI B oo s M') : ∃ tr, M'[oo]? = some (.mem [tr, .str s.2.1, .bool s.2.2]) ∧ (∀ x, (M'.set oo x)[oo]? = some x) ∧ ∀ (r : ByteArray) (e : Bool), MI B oo (s.1, r, e) (M'.set oo (.mem [tr, .str r, .bool e])) := by
  obtain ⟨⟨tr, le, obj, trs⟩, len, keep⟩ := h
  have hlt := lt_of_obj obj
  refine ⟨tr, obj, fun x => List.getElem?_set_self hlt, fun r e => ⟨⟨tr, le, List.getElem?_set_self hlt, ?_⟩, by simpa using len, fun q hq => by rw [List.getElem?_set_ne (by omega)]; exact keep q hq⟩⟩
  rcases trs with h | ⟨ot, h1, h2, h3, h4⟩
  · exact .inl h
  · exact .inr ⟨ot, h1, h2, h3, by rw [List.getElem?_set_ne (Ne.symm h3)]; exact h4⟩
theorem MI.one {B : List AO} {oo : Nat} {s : CrS} {M' : List AO} (h : MI B oo s M') {tr : AV} {r e : AV} (ho : M'[oo]? = some (.mem [tr, r, e])) : tr.one = true := by
  obtain ⟨⟨tr', le, obj, trs⟩, len, keep⟩ := h
  rw [ho] at obj
  injection obj with obj; injection obj with obj; injection obj with obj
  subst obj
  rcases trs with ⟨_, rfl⟩ | ⟨ot, rfl, _⟩ <;> rfl
theorem trip_lit {B : List AO} {oo : Nat} {s : CrS} {M' : List AO} (h : MI B oo s M') (xs : List Int) (hl : xs.length ≤ 12) (hL : s.1.length ≤ 1000) :
    AC E 80 [.sl 1 M'.length 0 xs.length xs.length, .ptr oo 0 3] (M' ++ [.mem (ints xs)]) (fun r M'' => r = .tup [] ∧ MI B oo (s.1 ++ [srt xs], s.2) M'') := by
  obtain ⟨⟨tr, le, obj, trs⟩, len, keep⟩ := h
  have hlt := lt_of_obj obj
  have hup : ∀ q x, M'[q]? = some x → (M' ++ [AO.mem (ints xs)])[q]? = some x := fun q x hx => by rw [List.getElem?_append_left (lt_of_obj hx)]; exact hx
  refine (trip_ok xs M'.length B.length oo s.1 s.2.1 s.2.2 tr _ hl hL (by simp) len (by omega) ⟨le, hup _ _ obj, ?_⟩ (fun k l g e => ?_)).mono ?_
  · rcases trs with h | ⟨ot, h1, h2, h3, h4⟩
    · exact .inl h
    · exact .inr ⟨ot, h1, h2, h3, hup _ _ h4⟩
  · rcases trs with ⟨_, h⟩ | ⟨ot, h1, h2, h3, h4⟩
    · rw [h] at e; cases e
    · rw [h1] at e; injection e with e1 e2
      have := lt_of_obj h4; omega
  · rintro r M'' ⟨rfl, hout, hlen, hkeep⟩
    refine ⟨rfl, hout, by simp at hlen; omega, fun q hq => ?_⟩
    rw [hkeep q hq, List.getElem?_append_left (by omega)]; exact keep q hq

theorem paceL_length (ts : List Int) : (paceL ts).length = ts.length := by unfold paceL; rw [insTo_length, ← upto, upto_length]
theorem paceL_all (ts : List Int) : ∀ z ∈ paceL ts, 0 ≤ z ∧ z < ts.length := by
  unfold paceL
  refine insTo_all _ _ _ (fun x hx => ?_) ?_
  · simp only [List.mem_map, List.mem_range] at hx
    obtain ⟨i, hi, rfl⟩ := hx
    omega
  · simp; omega
theorem cross_fin {B M M' : List AO} {s : CrS} {T : Tm} {tr : AV} (hBd : M ++ [AO.mem [.nils, .str ByteArray.empty, .bool false]] = B) (mi : MI B (M.length + 1) s M') (hobj : M'[M.length + 1]? = some (.mem [tr, .str s.2.1, .bool s.2.2])) (t4 : T 4 = .ptr M.length 0 3) (hcl : ClM M) :
    Fin E M.length [.cell 4 61] (fun r M' => r = .agg [.fz 1 (s.1.map fzi), .str s.2.1, .bool s.2.2] ∧ M' = M) .ret T (M'.set M.length (.mem [tr, .str s.2.1, .bool s.2.2])) := by
  obtain ⟨⟨tr', le, obj, trs⟩, len, keep⟩ := mi
  have hB : B.length = M.length + 1 := by rw [← hBd]; simp
  rw [hB] at le len keep trs
  rw [hobj] at obj
  injection obj with obj; injection obj with obj; injection obj with obj
  subst obj
  have hlt : M.length < M'.length := by omega
  obtain ⟨J, hJ⟩ := keep_append (M := M) (M' := M'.set M.length (.mem [tr, .str s.2.1, .bool s.2.2])) (by simp; omega) (fun q hq => by
    rw [List.getElem?_set_ne (by omega), keep q (by omega), ← hBd, List.getElem?_append_left hq])
  have hcell : (M'.set M.length (.mem [tr, .str s.2.1, .bool s.2.2]))[M.length]? = some (.mem [tr, .str s.2.1, .bool s.2.2]) := List.getElem?_set_self hlt
  have hrow : ∀ ot, ot ≠ M.length → (M'.set M.length (.mem [tr, .str s.2.1, .bool s.2.2]))[ot]? = M'[ot]? := fun ot h => List.getElem?_set_ne (Ne.symm h)
  rw [hJ] at hcell hrow ⊢
  refine left (rs := [.agg [tr, .str s.2.1, .bool s.2.2]]) (.inr rfl) hcl (Nat.le_refl _) (by simp (decide := true) only [ax, tabs, s0, Int.reduceToNat, t4, hcell]) ?_ ⟨rfl, rfl⟩
  refine .agg _ _ rfl (fun i => [tr, .str s.2.1, .bool s.2.2].getD i .any) (fun i b hb => ?_) (fun i b hb => ?_)
  · match i, hb with
    | 0, _ => rfl
    | 1, _ => rfl
    | 2, _ => rfl
  · match i, hb with
    | 0, hb =>
      simp at hb; subst hb
      rcases trs with ⟨h1, rfl⟩ | ⟨ot, rfl, h2, h3, h4⟩
      · rw [h1]; exact .nil 1
      · have h5 : (s.1.map fzi).length = s.1.length := by simp
        have hfl : flat (s.1.map fzi) = s.1.map fzi := by
          generalize s.1 = L
          induction L with
          | nil => rfl
          | cons x xs ih => show [fzi x] ++ flat (xs.map fzi) = _; rw [ih]; rfl
        have ht := tell_at (M' := M ++ J) (n := M.length) (k := 1) (o := ot) (xs := s.1.map fzi) (by rw [hrow ot (by omega), hfl]; exact h4) (by omega) ⟨fun x hx => by
          simp only [List.mem_map] at hx
          obtain ⟨l, _, rfl⟩ := hx; rfl, fun i b hb => by
          rw [hfl, List.getElem?_map] at hb
          obtain ⟨l, _, rfl⟩ := Option.map_eq_some_iff.1 hb
          exact .fz _ _ (Els.ints _ _).cl⟩
        rw [h5, Nat.mul_one] at ht
        exact ht
    | 1, hb => simp at hb; subst hb; exact .scal rfl
    | 2, hb => simp at hb; subst hb; exact .scal rfl
set_option maxHeartbeats 4000000 in
theorem cross_ok (ts : List Int) (esc : Bool) (M : List AO) (h0 : 1 ≤ ts.length) (hl : ts.length ≤ 12) (hts : ∀ t ∈ ts, 0 ≤ t ∧ t ≤ 1000000) : AC E 40 [.fz 1 (ints ts), .bool esc] M
    (fun r M' => r = .agg [.fz 1 ((crossF ts esc).1.map fzi), .str (crossF ts esc).2.1, .bool (crossF ts esc).2.2] ∧ M' = M) := by
  refine AC.body (fn := Tryz.f40) Tryz.func40 rfl rfl (by simp [Tryz.f40]) fun hcl => ?_
  simp only [Tryz.f40]
  repeat refine AW.seq ?_
  refine AW.ops ?_
  simp (decide := true) only [ax, tabs, s0, Int.reduceToNat]
  repeat refine AW.seq ?_
  refine AW.ops ?_
  simp (decide := true) only [ax, tabs, s0, Int.reduceToNat]
  refine AC.det (pace_ok ts _ hl) ?_
  try (simp (decide := true) only [ax, tabs, s0, Int.reduceToNat])
  try (simp (decide := true) only [ax, tabs, s0, Int.reduceToNat])
  repeat refine AW.seq ?_
  refine AW.ops ?_
  simp (decide := true) only [ax, tabs, s0, Int.reduceToNat]
  have hol : (paceL ts).length = ts.length := paceL_length ts
  have hoa := paceL_all ts
  have hon : ∀ i, i < ts.length → (ints (paceL ts)).getD i .any = iv (gi (paceL ts) i) := fun i hi => ints_get (by omega)
  have hob : ∀ i, i < ts.length → 0 ≤ gi (paceL ts) i ∧ gi (paceL ts) i < ts.length := fun i hi => getD_all hoa (by omega)
  have htm : ∀ k : Int, 0 ≤ k → k < ts.length → (ints ts).getD k.toNat .any = iv (tm ts k) := fun k h1 h2 => ints_get (by omega)
  have htb : ∀ k : Int, 0 ≤ k → k < ts.length → 0 ≤ tm ts k ∧ tm ts k ≤ 1000000 := fun k h1 h2 => getD_all hts (by omega)
  generalize hod : paceL ts = od at *
  repeat refine AW.seq ?_
  refine AW.ops ?_
  simp (decide := true) only [ax, tabs, s0, Int.reduceToNat, ints_length]
  have hB : (M ++ [AO.mem [.nils, .str ByteArray.empty, .bool false]]).length = M.length + 1 := by simp
  generalize hBd : M ++ [AO.mem [.nils, .str ByteArray.empty, .bool false]] = B at hB
  have hM0 : M ++ [AO.mem [.nils, .str ByteArray.empty, .bool false], AO.mem [.nils, .str ByteArray.empty, .bool false]] = B ++ [AO.mem [.nils, .str ByteArray.empty, .bool false]] := by rw [← hBd]; simp
  have mi0 : MI B (M.length + 1) ([], ByteArray.empty, false) (B ++ [AO.mem [.nils, .str ByteArray.empty, .bool false]]) :=
    ⟨⟨.nils, by omega, by rw [← hB]; simp, .inl ⟨rfl, rfl⟩⟩, by simp, fun q hq => by rw [List.getElem?_append_left hq]⟩
  first
  | refine AW.seq (AW.block (AW.loop (fun d T M' => ∃ (f lf : Nat) (s : CrS), lf = d ∧ lf ≤ f ∧ 1 ≤ lf ∧ lf ≤ ts.length ∧ rounds ts od esc f lf s = rounds ts od esc ts.length ts.length ([], ByteArray.empty, false) ∧ MI B (M.length + 1) s M' ∧ s.1.length + 2 * lf ≤ 24 ∧ s.2.1.size + lf ≤ 12 ∧
      T 0 = .fz 1 (ints ts) ∧ T 1 = .bool esc ∧ T 4 = .ptr M.length 0 3 ∧ T 5 = .fz 1 (ints od) ∧ T 6 = .ptr (M.length + 1) 0 3 ∧ T 7 = .fn 80 [.ptr (M.length + 1) 0 3] ∧ T 8 = iv lf) ts.length ?_ ?_))
  · exact ⟨ts.length, ts.length, _, rfl, Nat.le_refl _, h0, Nat.le_refl _, rfl, by rw [hM0]; exact mi0, by simp; omega, by simp; omega, by (first | (simp (decide := true) only [ax, tabs, s0, Int.reduceToNat]; done) | (simp (decide := true) only [ax, tabs, s0, Int.reduceToNat]; rfl) | rfl), by (first | (simp (decide := true) only [ax, tabs, s0, Int.reduceToNat]; done) | (simp (decide := true) only [ax, tabs, s0, Int.reduceToNat]; rfl) | rfl), by (first | (simp (decide := true) only [ax, tabs, s0, Int.reduceToNat]; done) | (simp (decide := true) only [ax, tabs, s0, Int.reduceToNat]; rfl) | rfl), by (first | (simp (decide := true) only [ax, tabs, s0, Int.reduceToNat]; done) | (simp (decide := true) only [ax, tabs, s0, Int.reduceToNat]; rfl) | rfl), by (first | (simp (decide := true) only [ax, tabs, s0, Int.reduceToNat]; done) | (simp (decide := true) only [ax, tabs, s0, Int.reduceToNat]; rfl) | rfl), by (first | (simp (decide := true) only [ax, tabs, s0, Int.reduceToNat]; done) | (simp (decide := true) only [ax, tabs, s0, Int.reduceToNat]; rfl) | rfl), by simp (decide := true) only [ax, tabs, s0, Int.reduceToNat, hol]⟩
  · rintro d T M' ⟨f, lf, s, rfl, hf, hl1, hl2, hr, mi, hs1, hs2, t0, t1, t4, t5, t6, t7, t8⟩
    repeat refine AW.seq ?_
    refine AW.ops ?_
    simp (decide := true) only [ax, tabs, s0, Int.reduceToNat, t8]
    repeat refine AW.seq ?_
    refine AW.cond (decide (3 < (lf : Int))) (by simp (decide := true) only [ax, tabs, s0, Int.reduceToNat]) (fun h => ?_) (fun h => ?_)
    · have h3 : 3 < lf := by have := of_decide_eq_true h; omega
      refine AW.skip ?_
      simp (decide := true) only [ax, tabs, s0, Int.reduceToNat]
      have w1 : IntKind.i64.wrap ((lf : Int) - 2) = ((lf - 2 : Nat) : Int) := by rw [wrap_in (by omega) (by omega)]; omega
      have w2 : IntKind.i64.wrap ((lf : Int) - 1) = ((lf - 1 : Nat) : Int) := by rw [wrap_in (by omega) (by omega)]; omega
      have i0 := hon 0 (by omega)
      have i1 := hon 1 (by omega)
      have i2 := hon (lf - 2) (by omega)
      have i3 := hon (lf - 1) (by omega)
      have l0 : 0 < ts.length := by omega
      have l1 : 1 < ts.length := by omega
      have m0 : (0 : Int) < ts.length := by omega
      have m1 : (1 : Int) < ts.length := by omega
      have l2 : lf - 2 < ts.length := by omega
      have l3 : lf - 1 < ts.length := by omega
      first
      | refine AW.seq (AW.seq (AW.block ?_))
      | refine AW.seq (AW.block ?_)
      repeat refine AW.seq ?_
      refine AW.draw Emix [2, 0, 0, 2, 0, 0, 2, 2, 2, 0, 0, 2, 2, 2, 0, 0, 2, 2, 2] [0, 1, 3, 0, 8, 24, 0, 0, 128, 448, 960, 0, 0, 4096, 14336, 30720, 7, 65599, 198655, 524287] (by kernel_rfl) ?_
      simp (decide := true) only [ax, axd, tabs, s0, Int.reduceToNat, t0, t1, t4, t5, t6, t7, t8, ints_length, hol, w1, w2, i0, i1, i2, i3, m0, m1, l2, l3]
      obtain ⟨a1, a2⟩ := hob 0 l0
      obtain ⟨b1, b2⟩ := hob 1 l1
      obtain ⟨y1, y2⟩ := hob (lf - 2) l2
      have ta := htm _ a1 a2
      have tb := htm _ b1 b2
      have ty := htm _ y1 y2
      obtain ⟨a3, a4⟩ := htb _ a1 a2
      obtain ⟨b3, b4⟩ := htb _ b1 b2
      obtain ⟨y3, y4⟩ := htb _ y1 y2
      have w3 : IntKind.i64.wrap (2 * tm ts (gi od 1)) = 2 * tm ts (gi od 1) := wrap_in (by omega) (by omega)
      have w4 : IntKind.i64.wrap (tm ts (gi od 0) + tm ts (gi od (lf - 2))) = tm ts (gi od 0) + tm ts (gi od (lf - 2)) := wrap_in (by omega) (by omega)
      repeat refine AW.seq ?_
      refine AW.draw Emix [2, 2, 0, 0, 2, 2, 2, 0, 0, 2, 2, 0, 0, 2, 2] [0, 0, 3, 7, 15, 0, 0, 96, 224, 0, 0, 1536, 3584, 8160, 31, 32767] (by kernel_rfl) ?_
      simp (decide := true) only [ax, axd, tabs, s0, Int.reduceToNat, t0, t1, t4, t5, t6, t7, t8, ints_length, a1, a2, b1, b2, y1, y2, ta, tb, ty, w3, w4]
      obtain ⟨tr, obj, sets, mi2⟩ := mi.set
      obtain ⟨f, rfl⟩ : ∃ f', f = f' + 1 := ⟨f - 1, by omega⟩
      simp only [rounds, if_pos h3] at hr
      cases hev : s.2.2
      · rw [hev] at obj
        repeat refine AW.seq ?_
        refine AW.ops ?_
        simp (decide := true) only [ax, tabs, s0, Int.reduceToNat, t0, t1, t4, t5, t6, t7, t8, obj]
        obtain ⟨e3, he3, mi3⟩ : ∃ e3, e3 = (s.2.2 || decide (2 * tm ts (gi od 1) = tm ts (gi od 0) + tm ts (gi od (lf - 2)))) ∧ MI B (M.length + 1) (s.1, s.2.1, e3) (M'.set (M.length + 1) (AO.mem [tr, AV.str s.2.1, AV.bool (decide (2 * tm ts (gi od 1) = tm ts (gi od 0) + tm ts (gi od (lf - 2))))])) := ⟨_, rfl, by rw [hev]; exact mi2 _ _⟩
        generalize hM3 : M'.set (M.length + 1) (AO.mem [tr, AV.str s.2.1, AV.bool (decide (2 * tm ts (gi od 1) = tm ts (gi od 0) + tm ts (gi od (lf - 2))))]) = M3 at mi3 ⊢
        repeat refine AW.seq ?_
        refine AW.ops ?_
        simp (decide := true) only [ax, tabs, s0, Int.reduceToNat, t0, t1, t4, t5, t6, t7, t8]
        cases h5 : decide (2 * tm ts (gi od 1) < tm ts (gi od 0) + tm ts (gi od (lf - 2)))
        · try (simp (decide := true) only [ax, tabs, s0, Int.reduceToNat])
          repeat refine AW.seq ?_
          refine AW.condF (by simp (decide := true) only [ax, tabs, s0, Int.reduceToNat, t1]) ?_
          obtain ⟨tr3, obj3, sets3, mi4'⟩ := mi3.set
          have z3 : s.2.1.size + sE.size ≤ 9223372036854775807 := by have : sE.size = 1 := rfl; omega
          have mi4 := mi4' (s.2.1 ++ sE) e3
          repeat refine AW.seq ?_
          refine AW.ops ?_
          simp (decide := true) only [ax, tabs, s0, Int.reduceToNat, t0, t1, t4, t5, t6, t7, t8, obj3]
          refine ⟨z3, ?_⟩
          generalize hM4 : M3.set (M.length + 1) (AO.mem [tr3, .str (s.2.1 ++ sE), .bool e3]) = M4 at mi4
          have hM5 := hM4
          unfold sE at hM5
          simp only [hM5]
          repeat refine AW.seq ?_
          refine AW.ops ?_
          simp (decide := true) only [ax, tabs, s0, Int.reduceToNat, t0, t1, t4, t5, t6, t7, t8]
          refine (trip_lit mi4 [gi od 0, gi od (lf - 1)] (by simp) (by simp; omega)).mono ?_
          rintro _ M5 ⟨rfl, mi5⟩
          repeat refine AW.seq ?_
          refine AW.ops ?_
          simp (decide := true) only [ax, tabs, s0, Int.reduceToNat, t0, t1, t4, t5, t6, t7, t8]
          refine (trip_lit mi5 [gi od 0] (by simp) (by simp; omega)).mono ?_
          rintro _ M6 ⟨rfl, mi6⟩
          repeat refine AW.seq ?_
          refine AW.ops ?_
          simp (decide := true) only [ax, tabs, s0, Int.reduceToNat, t0, t1, t4, t5, t6, t7, t8]
          refine (trip_lit mi6 [gi od 0, gi od (lf - 2)] (by simp) (by simp; omega)).mono ?_
          rintro _ M7 ⟨rfl, mi7⟩
          repeat refine AW.seq ?_
          refine AW.ops ?_
          simp (decide := true) only [ax, tabs, s0, Int.reduceToNat, t0, t1, t4, t5, t6, t7, t8]
          refine (trip_lit mi7 [gi od 0] (by simp) (by simp; omega)).mono ?_
          rintro _ M8 ⟨rfl, mi8⟩
          have hround : round1 ts od esc lf s = (s.1 ++ [srt [gi od 0, gi od (lf - 1)]] ++ [srt [gi od 0]] ++ [srt [gi od 0, gi od (lf - 2)]] ++ [srt [gi od 0]], s.2.1 ++ sE, e3) := by
            rw [he3]; simp only [round1]; rw [if_neg (by rw [h5]; simp)]
          repeat refine AW.seq ?_
          refine AW.ops ?_
          simp (decide := true) only [ax, tabs, s0, Int.reduceToNat, t0, t1, t4, t5, t6, t7, t8, w1]
          have zz : sE.size = 1 := rfl
          refine ⟨lf - 2, by omega, f, lf - 2, round1 ts od esc lf s, rfl, by omega, by omega, by omega, hr, by rw [hround]; exact mi8, by rw [hround]; simp; omega, by rw [hround]; simp [ByteArray.size_append, zz]; omega, ?_⟩
          try (simp (decide := true) only [ax, tabs, s0, Int.reduceToNat, t0, t1, t4, t5, t6, t7, t8, w1])
        · try (simp (decide := true) only [ax, tabs, s0, Int.reduceToNat, t1])
          cases esc with
          | true =>
            repeat refine AW.seq ?_
            refine AW.condF (by simp (decide := true) only [ax, tabs, s0, Int.reduceToNat, t1]) ?_
            obtain ⟨tr3, obj3, sets3, mi4'⟩ := mi3.set
            have z3 : s.2.1.size + sE.size ≤ 9223372036854775807 := by have : sE.size = 1 := rfl; omega
            have mi4 := mi4' (s.2.1 ++ sE) e3
            repeat refine AW.seq ?_
            refine AW.ops ?_
            simp (decide := true) only [ax, tabs, s0, Int.reduceToNat, t0, t1, t4, t5, t6, t7, t8, obj3]
            refine ⟨z3, ?_⟩
            generalize hM4 : M3.set (M.length + 1) (AO.mem [tr3, .str (s.2.1 ++ sE), .bool e3]) = M4 at mi4
            have hM5 := hM4
            unfold sE at hM5
            simp only [hM5]
            repeat refine AW.seq ?_
            refine AW.ops ?_
            simp (decide := true) only [ax, tabs, s0, Int.reduceToNat, t0, t1, t4, t5, t6, t7, t8]
            refine (trip_lit mi4 [gi od 0, gi od (lf - 1)] (by simp) (by simp; omega)).mono ?_
            rintro _ M5 ⟨rfl, mi5⟩
            repeat refine AW.seq ?_
            refine AW.ops ?_
            simp (decide := true) only [ax, tabs, s0, Int.reduceToNat, t0, t1, t4, t5, t6, t7, t8]
            refine (trip_lit mi5 [gi od 0] (by simp) (by simp; omega)).mono ?_
            rintro _ M6 ⟨rfl, mi6⟩
            repeat refine AW.seq ?_
            refine AW.ops ?_
            simp (decide := true) only [ax, tabs, s0, Int.reduceToNat, t0, t1, t4, t5, t6, t7, t8]
            refine (trip_lit mi6 [gi od 0, gi od (lf - 2)] (by simp) (by simp; omega)).mono ?_
            rintro _ M7 ⟨rfl, mi7⟩
            repeat refine AW.seq ?_
            refine AW.ops ?_
            simp (decide := true) only [ax, tabs, s0, Int.reduceToNat, t0, t1, t4, t5, t6, t7, t8]
            refine (trip_lit mi7 [gi od 0] (by simp) (by simp; omega)).mono ?_
            rintro _ M8 ⟨rfl, mi8⟩
            have hround : round1 ts od true lf s = (s.1 ++ [srt [gi od 0, gi od (lf - 1)]] ++ [srt [gi od 0]] ++ [srt [gi od 0, gi od (lf - 2)]] ++ [srt [gi od 0]], s.2.1 ++ sE, e3) := by
              rw [he3]; simp only [round1]; rw [if_neg (by simp)]
            repeat refine AW.seq ?_
            refine AW.ops ?_
            simp (decide := true) only [ax, tabs, s0, Int.reduceToNat, t0, t1, t4, t5, t6, t7, t8, w1]
            have zz : sE.size = 1 := rfl
            refine ⟨lf - 2, by omega, f, lf - 2, round1 ts od true lf s, rfl, by omega, by omega, by omega, hr, by rw [hround]; exact mi8, by rw [hround]; simp; omega, by rw [hround]; simp [ByteArray.size_append, zz]; omega, ?_⟩
            try (simp (decide := true) only [ax, tabs, s0, Int.reduceToNat, t0, t1, t4, t5, t6, t7, t8, w1])
          | false =>
            repeat refine AW.seq ?_
            refine AW.condT (by simp (decide := true) only [ax, tabs, s0, Int.reduceToNat, t1]) ?_
            obtain ⟨tr3, obj3, sets3, mi4'⟩ := mi3.set
            have z3 : s.2.1.size + sF.size ≤ 9223372036854775807 := by have : sF.size = 1 := rfl; omega
            have mi4 := mi4' (s.2.1 ++ sF) e3
            repeat refine AW.seq ?_
            refine AW.ops ?_
            simp (decide := true) only [ax, tabs, s0, Int.reduceToNat, t0, t1, t4, t5, t6, t7, t8, obj3]
            refine ⟨z3, ?_⟩
            generalize hM4 : M3.set (M.length + 1) (AO.mem [tr3, .str (s.2.1 ++ sF), .bool e3]) = M4 at mi4
            have hM5 := hM4
            unfold sF at hM5
            simp only [hM5]
            repeat refine AW.seq ?_
            refine AW.ops ?_
            simp (decide := true) only [ax, tabs, s0, Int.reduceToNat, t0, t1, t4, t5, t6, t7, t8]
            refine (trip_lit mi4 [gi od 0, gi od 1] (by simp) (by simp; omega)).mono ?_
            rintro _ M5 ⟨rfl, mi5⟩
            repeat refine AW.seq ?_
            refine AW.ops ?_
            simp (decide := true) only [ax, tabs, s0, Int.reduceToNat, t0, t1, t4, t5, t6, t7, t8]
            refine (trip_lit mi5 [gi od 0] (by simp) (by simp; omega)).mono ?_
            rintro _ M6 ⟨rfl, mi6⟩
            repeat refine AW.seq ?_
            refine AW.ops ?_
            simp (decide := true) only [ax, tabs, s0, Int.reduceToNat, t0, t1, t4, t5, t6, t7, t8]
            refine (trip_lit mi6 [gi od (lf - 2), gi od (lf - 1)] (by simp) (by simp; omega)).mono ?_
            rintro _ M7 ⟨rfl, mi7⟩
            repeat refine AW.seq ?_
            refine AW.ops ?_
            simp (decide := true) only [ax, tabs, s0, Int.reduceToNat, t0, t1, t4, t5, t6, t7, t8]
            refine (trip_lit mi7 [gi od 1] (by simp) (by simp; omega)).mono ?_
            rintro _ M8 ⟨rfl, mi8⟩
            have hround : round1 ts od false lf s = (s.1 ++ [srt [gi od 0, gi od 1]] ++ [srt [gi od 0]] ++ [srt [gi od (lf - 2), gi od (lf - 1)]] ++ [srt [gi od 1]], s.2.1 ++ sF, e3) := by
              rw [he3]; simp only [round1]; rw [if_pos (by rw [h5]; rfl)]
            repeat refine AW.seq ?_
            refine AW.ops ?_
            simp (decide := true) only [ax, tabs, s0, Int.reduceToNat, t0, t1, t4, t5, t6, t7, t8, w1]
            have zz : sF.size = 1 := rfl
            refine ⟨lf - 2, by omega, f, lf - 2, round1 ts od false lf s, rfl, by omega, by omega, by omega, hr, by rw [hround]; exact mi8, by rw [hround]; simp; omega, by rw [hround]; simp [ByteArray.size_append, zz]; omega, ?_⟩
            try (simp (decide := true) only [ax, tabs, s0, Int.reduceToNat, t0, t1, t4, t5, t6, t7, t8, w1])
      · rw [hev] at obj
        repeat refine AW.seq ?_
        refine AW.ops ?_
        simp (decide := true) only [ax, tabs, s0, Int.reduceToNat, t0, t1, t4, t5, t6, t7, t8, obj]
        obtain ⟨e3, he3, mi3⟩ : ∃ e3, e3 = (s.2.2 || decide (2 * tm ts (gi od 1) = tm ts (gi od 0) + tm ts (gi od (lf - 2)))) ∧ MI B (M.length + 1) (s.1, s.2.1, e3) (M'.set (M.length + 1) (AO.mem [tr, AV.str s.2.1, AV.bool (true)])) := ⟨_, rfl, by rw [hev]; exact mi2 _ _⟩
        generalize hM3 : M'.set (M.length + 1) (AO.mem [tr, AV.str s.2.1, AV.bool (true)]) = M3 at mi3 ⊢
        repeat refine AW.seq ?_
        refine AW.ops ?_
        simp (decide := true) only [ax, tabs, s0, Int.reduceToNat, t0, t1, t4, t5, t6, t7, t8]
        cases h5 : decide (2 * tm ts (gi od 1) < tm ts (gi od 0) + tm ts (gi od (lf - 2)))
        · try (simp (decide := true) only [ax, tabs, s0, Int.reduceToNat])
          repeat refine AW.seq ?_
          refine AW.condF (by simp (decide := true) only [ax, tabs, s0, Int.reduceToNat, t1]) ?_
          obtain ⟨tr3, obj3, sets3, mi4'⟩ := mi3.set
          have z3 : s.2.1.size + sE.size ≤ 9223372036854775807 := by have : sE.size = 1 := rfl; omega
          have mi4 := mi4' (s.2.1 ++ sE) e3
          repeat refine AW.seq ?_
          refine AW.ops ?_
          simp (decide := true) only [ax, tabs, s0, Int.reduceToNat, t0, t1, t4, t5, t6, t7, t8, obj3]
          refine ⟨z3, ?_⟩
          generalize hM4 : M3.set (M.length + 1) (AO.mem [tr3, .str (s.2.1 ++ sE), .bool e3]) = M4 at mi4
          have hM5 := hM4
          unfold sE at hM5
          simp only [hM5]
          repeat refine AW.seq ?_
          refine AW.ops ?_
          simp (decide := true) only [ax, tabs, s0, Int.reduceToNat, t0, t1, t4, t5, t6, t7, t8]
          refine (trip_lit mi4 [gi od 0, gi od (lf - 1)] (by simp) (by simp; omega)).mono ?_
          rintro _ M5 ⟨rfl, mi5⟩
          repeat refine AW.seq ?_
          refine AW.ops ?_
          simp (decide := true) only [ax, tabs, s0, Int.reduceToNat, t0, t1, t4, t5, t6, t7, t8]
          refine (trip_lit mi5 [gi od 0] (by simp) (by simp; omega)).mono ?_
          rintro _ M6 ⟨rfl, mi6⟩
          repeat refine AW.seq ?_
          refine AW.ops ?_
          simp (decide := true) only [ax, tabs, s0, Int.reduceToNat, t0, t1, t4, t5, t6, t7, t8]
          refine (trip_lit mi6 [gi od 0, gi od (lf - 2)] (by simp) (by simp; omega)).mono ?_
          rintro _ M7 ⟨rfl, mi7⟩
          repeat refine AW.seq ?_
          refine AW.ops ?_
          simp (decide := true) only [ax, tabs, s0, Int.reduceToNat, t0, t1, t4, t5, t6, t7, t8]
          refine (trip_lit mi7 [gi od 0] (by simp) (by simp; omega)).mono ?_
          rintro _ M8 ⟨rfl, mi8⟩
          have hround : round1 ts od esc lf s = (s.1 ++ [srt [gi od 0, gi od (lf - 1)]] ++ [srt [gi od 0]] ++ [srt [gi od 0, gi od (lf - 2)]] ++ [srt [gi od 0]], s.2.1 ++ sE, e3) := by
            rw [he3]; simp only [round1]; rw [if_neg (by rw [h5]; simp)]
          repeat refine AW.seq ?_
          refine AW.ops ?_
          simp (decide := true) only [ax, tabs, s0, Int.reduceToNat, t0, t1, t4, t5, t6, t7, t8, w1]
          have zz : sE.size = 1 := rfl
          refine ⟨lf - 2, by omega, f, lf - 2, round1 ts od esc lf s, rfl, by omega, by omega, by omega, hr, by rw [hround]; exact mi8, by rw [hround]; simp; omega, by rw [hround]; simp [ByteArray.size_append, zz]; omega, ?_⟩
          try (simp (decide := true) only [ax, tabs, s0, Int.reduceToNat, t0, t1, t4, t5, t6, t7, t8, w1])
        · try (simp (decide := true) only [ax, tabs, s0, Int.reduceToNat, t1])
          cases esc with
          | true =>
            repeat refine AW.seq ?_
            refine AW.condF (by simp (decide := true) only [ax, tabs, s0, Int.reduceToNat, t1]) ?_
            obtain ⟨tr3, obj3, sets3, mi4'⟩ := mi3.set
            have z3 : s.2.1.size + sE.size ≤ 9223372036854775807 := by have : sE.size = 1 := rfl; omega
            have mi4 := mi4' (s.2.1 ++ sE) e3
            repeat refine AW.seq ?_
            refine AW.ops ?_
            simp (decide := true) only [ax, tabs, s0, Int.reduceToNat, t0, t1, t4, t5, t6, t7, t8, obj3]
            refine ⟨z3, ?_⟩
            generalize hM4 : M3.set (M.length + 1) (AO.mem [tr3, .str (s.2.1 ++ sE), .bool e3]) = M4 at mi4
            have hM5 := hM4
            unfold sE at hM5
            simp only [hM5]
            repeat refine AW.seq ?_
            refine AW.ops ?_
            simp (decide := true) only [ax, tabs, s0, Int.reduceToNat, t0, t1, t4, t5, t6, t7, t8]
            refine (trip_lit mi4 [gi od 0, gi od (lf - 1)] (by simp) (by simp; omega)).mono ?_
            rintro _ M5 ⟨rfl, mi5⟩
            repeat refine AW.seq ?_
            refine AW.ops ?_
            simp (decide := true) only [ax, tabs, s0, Int.reduceToNat, t0, t1, t4, t5, t6, t7, t8]
            refine (trip_lit mi5 [gi od 0] (by simp) (by simp; omega)).mono ?_
            rintro _ M6 ⟨rfl, mi6⟩
            repeat refine AW.seq ?_
            refine AW.ops ?_
            simp (decide := true) only [ax, tabs, s0, Int.reduceToNat, t0, t1, t4, t5, t6, t7, t8]
            refine (trip_lit mi6 [gi od 0, gi od (lf - 2)] (by simp) (by simp; omega)).mono ?_
            rintro _ M7 ⟨rfl, mi7⟩
            repeat refine AW.seq ?_
            refine AW.ops ?_
            simp (decide := true) only [ax, tabs, s0, Int.reduceToNat, t0, t1, t4, t5, t6, t7, t8]
            refine (trip_lit mi7 [gi od 0] (by simp) (by simp; omega)).mono ?_
            rintro _ M8 ⟨rfl, mi8⟩
            have hround : round1 ts od true lf s = (s.1 ++ [srt [gi od 0, gi od (lf - 1)]] ++ [srt [gi od 0]] ++ [srt [gi od 0, gi od (lf - 2)]] ++ [srt [gi od 0]], s.2.1 ++ sE, e3) := by
              rw [he3]; simp only [round1]; rw [if_neg (by simp)]
            repeat refine AW.seq ?_
            refine AW.ops ?_
            simp (decide := true) only [ax, tabs, s0, Int.reduceToNat, t0, t1, t4, t5, t6, t7, t8, w1]
            have zz : sE.size = 1 := rfl
            refine ⟨lf - 2, by omega, f, lf - 2, round1 ts od true lf s, rfl, by omega, by omega, by omega, hr, by rw [hround]; exact mi8, by rw [hround]; simp; omega, by rw [hround]; simp [ByteArray.size_append, zz]; omega, ?_⟩
            try (simp (decide := true) only [ax, tabs, s0, Int.reduceToNat, t0, t1, t4, t5, t6, t7, t8, w1])
          | false =>
            repeat refine AW.seq ?_
            refine AW.condT (by simp (decide := true) only [ax, tabs, s0, Int.reduceToNat, t1]) ?_
            obtain ⟨tr3, obj3, sets3, mi4'⟩ := mi3.set
            have z3 : s.2.1.size + sF.size ≤ 9223372036854775807 := by have : sF.size = 1 := rfl; omega
            have mi4 := mi4' (s.2.1 ++ sF) e3
            repeat refine AW.seq ?_
            refine AW.ops ?_
            simp (decide := true) only [ax, tabs, s0, Int.reduceToNat, t0, t1, t4, t5, t6, t7, t8, obj3]
            refine ⟨z3, ?_⟩
            generalize hM4 : M3.set (M.length + 1) (AO.mem [tr3, .str (s.2.1 ++ sF), .bool e3]) = M4 at mi4
            have hM5 := hM4
            unfold sF at hM5
            simp only [hM5]
            repeat refine AW.seq ?_
            refine AW.ops ?_
            simp (decide := true) only [ax, tabs, s0, Int.reduceToNat, t0, t1, t4, t5, t6, t7, t8]
            refine (trip_lit mi4 [gi od 0, gi od 1] (by simp) (by simp; omega)).mono ?_
            rintro _ M5 ⟨rfl, mi5⟩
            repeat refine AW.seq ?_
            refine AW.ops ?_
            simp (decide := true) only [ax, tabs, s0, Int.reduceToNat, t0, t1, t4, t5, t6, t7, t8]
            refine (trip_lit mi5 [gi od 0] (by simp) (by simp; omega)).mono ?_
            rintro _ M6 ⟨rfl, mi6⟩
            repeat refine AW.seq ?_
            refine AW.ops ?_
            simp (decide := true) only [ax, tabs, s0, Int.reduceToNat, t0, t1, t4, t5, t6, t7, t8]
            refine (trip_lit mi6 [gi od (lf - 2), gi od (lf - 1)] (by simp) (by simp; omega)).mono ?_
            rintro _ M7 ⟨rfl, mi7⟩
            repeat refine AW.seq ?_
            refine AW.ops ?_
            simp (decide := true) only [ax, tabs, s0, Int.reduceToNat, t0, t1, t4, t5, t6, t7, t8]
            refine (trip_lit mi7 [gi od 1] (by simp) (by simp; omega)).mono ?_
            rintro _ M8 ⟨rfl, mi8⟩
            have hround : round1 ts od false lf s = (s.1 ++ [srt [gi od 0, gi od 1]] ++ [srt [gi od 0]] ++ [srt [gi od (lf - 2), gi od (lf - 1)]] ++ [srt [gi od 1]], s.2.1 ++ sF, e3) := by
              rw [he3]; simp only [round1]; rw [if_pos (by rw [h5]; rfl)]
            repeat refine AW.seq ?_
            refine AW.ops ?_
            simp (decide := true) only [ax, tabs, s0, Int.reduceToNat, t0, t1, t4, t5, t6, t7, t8, w1]
            have zz : sF.size = 1 := rfl
            refine ⟨lf - 2, by omega, f, lf - 2, round1 ts od false lf s, rfl, by omega, by omega, by omega, hr, by rw [hround]; exact mi8, by rw [hround]; simp; omega, by rw [hround]; simp [ByteArray.size_append, zz]; omega, ?_⟩
            try (simp (decide := true) only [ax, tabs, s0, Int.reduceToNat, t0, t1, t4, t5, t6, t7, t8, w1])
    · have h3 : ¬ 3 < lf := by have := of_decide_eq_false h; omega
      refine AW.exit ?_
      have hcf : crossF ts esc = last od lf s := by
        rw [← hod]
        refine crossF_eq ts esc lf s ?_
        rw [hod, hol, ← hr]
        cases f with
        | zero => rfl
        | succ f => simp only [rounds, if_neg h3]
      try (simp (decide := true) only [ax, tabs, s0, Int.reduceToNat])
      repeat refine AW.seq ?_
      refine AW.ops ?_
      simp (decide := true) only [ax, tabs, s0, Int.reduceToNat, t8]
      refine AW.block ?_
      have mi3 := mi
      obtain rfl | rfl | rfl : lf = 3 ∨ lf = 2 ∨ lf = 1 := by omega
      · have i0 := hon 0 (by omega)
        have i1 := hon 1 (by omega)
        have i2 := hon 2 (by omega)
        have m0 : (0 : Int) < ts.length := by omega
        have m1 : (1 : Int) < ts.length := by omega
        have m2 : (2 : Int) < ts.length := by omega
        repeat refine AW.seq ?_
        refine AW.ops ?_
        simp (decide := true) only [ax, tabs, s0, Int.reduceToNat]
        repeat refine AW.seq ?_
        refine AW.condT (by simp (decide := true) only [ax, tabs, s0, Int.reduceToNat]) ?_
        repeat refine AW.seq ?_
        refine AW.draw Emix [2, 2, 0, 0, 2, 0, 0, 1] [0, 0, 2, 6, 0, 16, 48, 126, 255] (by kernel_rfl) ?_
        simp (decide := true) only [ax, axd, tabs, s0, Int.reduceToNat, t0, t1, t4, t5, t6, t7, t8, ints_length, hol, m0, m1, m2, i0, i1, i2]
        refine (trip_lit mi3 [gi od 0, gi od 1] (by simp) (by first | omega | (simp; omega))).mono ?_
        rintro _ M4 ⟨rfl, mi4⟩
        repeat refine AW.seq ?_
        refine AW.ops ?_
        simp (decide := true) only [ax, tabs, s0, Int.reduceToNat, t0, t1, t4, t5, t6, t7, t8, ints_length, hol, m0, m1, m2, i0, i1, i2]
        refine (trip_lit mi4 [gi od 0] (by simp) (by first | omega | (simp; omega))).mono ?_
        rintro _ M5 ⟨rfl, mi5⟩
        repeat refine AW.seq ?_
        refine AW.draw Emix [2, 2, 0, 0, 2, 0, 0, 1] [0, 0, 2, 6, 0, 16, 48, 126, 255] (by kernel_rfl) ?_
        simp (decide := true) only [ax, axd, tabs, s0, Int.reduceToNat, t0, t1, t4, t5, t6, t7, t8, ints_length, hol, m0, m1, m2, i0, i1, i2]
        refine (trip_lit mi5 [gi od 0, gi od 2] (by simp) (by first | omega | (simp; omega))).mono ?_
        rintro _ M6 ⟨rfl, mi6⟩
        have hk : M6[M.length]? = some (.mem [.nils, .str ByteArray.empty, .bool false]) := by rw [mi6.keep _ (by omega), ← hBd]; simp
        obtain ⟨tr, obj, _, _⟩ := mi6.set
        have h1 := mi6.one obj
        try (simp (decide := true) only [ax, tabs, s0, Int.reduceToNat])
        repeat refine AW.seq ?_
        refine AW.ops ?_
        simp (decide := true) only [ax, tabs, s0, Int.reduceToNat, t4, t6, obj, hk, h1]
        refine AW.ret ?_
        have hcf2 : crossF ts esc = (s.1 ++ [srt [gi od 0, gi od 1]] ++ [srt [gi od 0]] ++ [srt [gi od 0, gi od 2]], s.2) := by rw [hcf]; rfl
        rw [hcf2]
        exact cross_fin hBd mi6 obj (by simp (decide := true) only [ax, tabs, s0, Int.reduceToNat, t4]) hcl
      · have i0 := hon 0 (by omega)
        have i1 := hon 1 (by omega)
        have m0 : (0 : Int) < ts.length := by omega
        have m1 : (1 : Int) < ts.length := by omega
        repeat refine AW.seq ?_
        refine AW.ops ?_
        simp (decide := true) only [ax, tabs, s0, Int.reduceToNat]
        repeat refine AW.seq ?_
        refine AW.condF (by simp (decide := true) only [ax, tabs, s0, Int.reduceToNat]) ?_
        repeat refine AW.seq ?_
        refine AW.ops ?_
        simp (decide := true) only [ax, tabs, s0, Int.reduceToNat]
        repeat refine AW.seq ?_
        refine AW.condT (by simp (decide := true) only [ax, tabs, s0, Int.reduceToNat]) ?_
        repeat refine AW.seq ?_
        refine AW.draw Emix [2, 2, 0, 0, 2, 0, 0, 1] [0, 0, 2, 6, 0, 16, 48, 126, 255] (by kernel_rfl) ?_
        simp (decide := true) only [ax, axd, tabs, s0, Int.reduceToNat, t0, t1, t4, t5, t6, t7, t8, ints_length, hol, m0, m1, i0, i1]
        refine (trip_lit mi3 [gi od 0, gi od 1] (by simp) (by first | omega | (simp; omega))).mono ?_
        rintro _ M4 ⟨rfl, mi4⟩
        have hk : M4[M.length]? = some (.mem [.nils, .str ByteArray.empty, .bool false]) := by rw [mi4.keep _ (by omega), ← hBd]; simp
        obtain ⟨tr, obj, _, _⟩ := mi4.set
        have h1 := mi4.one obj
        try (simp (decide := true) only [ax, tabs, s0, Int.reduceToNat])
        repeat refine AW.seq ?_
        refine AW.ops ?_
        simp (decide := true) only [ax, tabs, s0, Int.reduceToNat, t4, t6, obj, hk, h1]
        refine AW.ret ?_
        have hcf2 : crossF ts esc = (s.1 ++ [srt [gi od 0, gi od 1]], s.2) := by rw [hcf]; rfl
        rw [hcf2]
        exact cross_fin hBd mi4 obj (by simp (decide := true) only [ax, tabs, s0, Int.reduceToNat, t4]) hcl
      · have i0 := hon 0 (by omega)
        have m0 : (0 : Int) < ts.length := by omega
        repeat refine AW.seq ?_
        refine AW.ops ?_
        simp (decide := true) only [ax, tabs, s0, Int.reduceToNat]
        repeat refine AW.seq ?_
        refine AW.condF (by simp (decide := true) only [ax, tabs, s0, Int.reduceToNat]) ?_
        repeat refine AW.seq ?_
        refine AW.ops ?_
        simp (decide := true) only [ax, tabs, s0, Int.reduceToNat]
        repeat refine AW.seq ?_
        refine AW.condF (by simp (decide := true) only [ax, tabs, s0, Int.reduceToNat]) ?_
        repeat refine AW.seq ?_
        refine AW.ops ?_
        simp (decide := true) only [ax, tabs, s0, Int.reduceToNat, t0, t1, t4, t5, t6, t7, t8, ints_length, hol, m0, i0]
        refine (trip_lit mi3 [gi od 0] (by simp) (by first | omega | (simp; omega))).mono ?_
        rintro _ M4 ⟨rfl, mi4⟩
        have hk : M4[M.length]? = some (.mem [.nils, .str ByteArray.empty, .bool false]) := by rw [mi4.keep _ (by omega), ← hBd]; simp
        obtain ⟨tr, obj, _, _⟩ := mi4.set
        have h1 := mi4.one obj
        try (simp (decide := true) only [ax, tabs, s0, Int.reduceToNat])
        repeat refine AW.seq ?_
        refine AW.ops ?_
        simp (decide := true) only [ax, tabs, s0, Int.reduceToNat, t4, t6, obj, hk, h1]
        refine AW.ret ?_
        have hcf2 : crossF ts esc = (s.1 ++ [srt [gi od 0]], s.2) := by rw [hcf]; rfl
        rw [hcf2]
        exact cross_fin hBd mi4 obj (by simp (decide := true) only [ax, tabs, s0, Int.reduceToNat, t4]) hcl
end Go.Ax
