/- What a list of operations asks, reckoned out. -/
import Derived.Test.YtnbfoiidlbfbeaaGreatAx6
set_option linter.unusedVariables false
set_option linter.unusedSimpArgs false
namespace Go.Ax
open Go.RowKit (Below)
open Go.Proofs (Enters enters_of)

/-- Where an address leads: the cells behind it. -/
def behindA (M : List AO) : AV → Option (List AV)
  | .fp cs => some cs
  | .ptr o off g => match M[o]? with
    | some (.mem cs) => if cs.length = g then some (cs.drop off) else none
    | _ => none
  | _ => none
def someA (x : Option AV) (N : AV → Prop) : Prop := match x with
  | some r => N r
  | none => False

/-- What binary operations come to. -/
def binA (E : Env) (M : List AO) (op : BinOp) (t : TypeId) (x y : AV) (N : AV → Prop) : Prop :=
  match op, x, y with
  | .quo, .int k a, .int k' b => k = k' ∧ b ≠ 0 ∧ N (.int k (k.wrap (a.tdiv b)))
  | .rem, .int k a, .int k' b => k = k' ∧ b ≠ 0 ∧ N (.int k (a.tmod b))
  | .shl, .int k a, .int _ b => 0 ≤ b ∧ N (.int k (k.wrap (a * 2 ^ (min b.toNat k.bits))))
  | .shr, .int k a, .int _ b => 0 ≤ b ∧ N (.int k (a.fdiv (2 ^ (min b.toNat k.bits))))
  | op, .int k a, .int k' b => k = k' ∧ someA (intA op k a b) N
  | .eql, .bool a, .bool b => E.tab t = some .bool ∧ N (.bool (decide (a = b)))
  | .neq, .bool a, .bool b => E.tab t = some .bool ∧ N (.bool (decide (a ≠ b)))
  | .add, .str a, .str b => a.size + b.size ≤ 9223372036854775807 ∧ N (.str (a ++ b))
  | .eql, .str a, .str b => N (.bool (decide (a = b)))
  | .neq, .str a, .str b => N (.bool (!decide (a = b)))
  | .eql, x, .nils => match E.tab t with
    | some (.sl ..) => nilA M x fun b => N (.bool b)
    | _ => False
  | .neq, x, .nils => match E.tab t with
    | some (.sl ..) => nilA M x fun b => N (.bool (!b))
    | _ => False
  | .eql, .agg us, .agg bs => match E.eqs t, eqI us bs with
    | some n, some r => us.length = n ∧ N (.bool r)
    | _, _ => False
  | _, _, _ => False

def callA (E : Env) (T : Tm) (M : List AO) (N : AV → List AO → Prop) : Callee → List Operand → List TypeId → Prop
  | .value f, args, _ => match ev E T f with
    | .fn g caps => AC E g (args.map (ev E T) ++ caps) M N
    | _ => False
  | .builtin .len, [x], [t] => match E.tab t, ev E T x with
    | some (.sl ..), .nils => N (.int .i64 0) M
    | some (.sl ..), .fz _ xs => N (.int .i64 xs.length) M
    | some .str, .str s => N (.int .i64 s.size) M
    | some (.sl ..), .sl _ o _ len g => (match M[o]? with | some (.mem cs) => cs.length = g | _ => False) ∧ N (.int .i64 len) M
    | _, _ => False
  | .builtin .max, [x, y], _ => match ev E T x, ev E T y with
    | .int k m, .int k' n => k = k' ∧ N (.int k (if n > m then n else m)) M
    | _, _ => False
  | .builtin .min, [x, y], _ => match ev E T x, ev E T y with
    | .int k m, .int k' n => k = k' ∧ N (.int k (if n < m then n else m)) M
    | _, _ => False
  | .builtin .append, [x, y], [t, t'] => t = t' ∧ match E.tab t, ev E T x with
    | some (.sl e k by' ez), .sl k' o off len g => k = k' ∧ (match M[o]? with
      | some (.mem cs) => cs.length = g ∧ (match rdA M (ev E T y) with
        | some (m, ys) => ys.length = m * k ∧ ys.all AV.one = true ∧ (if off = 0 ∧ len * k = g then (len + m) * by' ≤ 140737488355328 ∧ N (.sl k o 0 (len + m) (g + m * k)) (M.set o (.mem (cs ++ ys)))
          else off + (len + m) * k ≤ g ∧ N (.sl k o off (len + m) g) (M.set o (.mem (putA' cs (off + len * k) ys))))
        | none => False)
      | _ => False)
    | some (.sl e k by' ez), .nils => (match rdA M (ev E T y) with
        | some (m, ys) => ys.length = m * k ∧ ys.all AV.one = true ∧ m * by' ≤ 140737488355328 ∧ 0 < m ∧ N (.sl k M.length 0 m (m * k)) (M ++ [.mem ys])
        | none => False)
    | _, _ => False
  | .builtin .clear, [x], [t] => match E.tab t, ev E T x with
    | some (.sl e k by' ez), .sl k' o off len g => k = k' ∧ (match M[o]? with
      | some (.mem cs) => cs.length = g ∧ off + len * k ≤ g ∧ N (.tup []) (M.set o (.mem (putA' cs off (zerosA ez len))))
      | _ => False)
    | _, _ => False
  | _, _, _ => False

def opA (E : Env) (T : Tm) (M : List AO) (N : AV → List AO → Prop) : Op → Prop
  | .move x => N (ev E T x) M
  | .assign x => N (ev E T x) M
  | .pick x y z => match ev E T x with
    | .bool b => N (if b = true then ev E T y else ev E T z) M
    | _ => False
  | .box _ x => (ev E T x).whole = true ∧ N (.ptr M.length 0 (ev E T x).cells.length) (M ++ [.mem (ev E T x).cells])
  | .alloc t => match E.tab t with
    | some d => (ofZ d.zero).whole = true ∧ N (.ptr M.length 0 (ofZ d.zero).cells.length) (M ++ [.mem (ofZ d.zero).cells])
    | none => False
  | .load t x => match E.tab t, behindA M (ev E T x) with
    | some d, some cs => someA (loadA d cs) fun r => N r M
    | _, _ => False
  | .store t x y => match E.tab t, ev E T x with
    | some d, .ptr o off g => (match M[o]? with
      | some (.mem cs) => cs.length = g ∧ (ev E T y).whole = true ∧ (ev E T y).cells.length = d.size ∧ off + d.size ≤ g ∧ N .any (M.set o (.mem (putA' cs off (ev E T y).cells)))
      | _ => False)
    | _, _ => False
  | .nilCheck x => (match ev E T x with
    | .ptr o _ g => (match M[o]? with | some (.mem cs) => cs.length = g | _ => False)
    | .fp _ => True
    | _ => False) ∧ N (ev E T x) M
  | .binOp op t x y _ => binA E M op t (ev E T x) (ev E T y) fun r => N r M
  | .unOp .not _ x => match ev E T x with
    | .bool b => N (.bool (!b)) M
    | _ => False
  | .unOp .neg _ x => match ev E T x with
    | .int k n => N (.int k (k.wrap (0 - n))) M
    | _ => False
  | .convert src dst x => match E.tab src, E.tab dst, ev E T x with
    | some _, some (.int k), .int _ n => N (.int k (k.wrap n)) M
    | _, _, _ => False
  | .makeFunc (.func f) first caps => first = #[] ∧ N (.fn f (caps.toList.map (ev E T))) M
  | .slice t x lo hi none => match E.tab t, ev E T x with
    | some (.sl e k by' ez), .fz k' xs => k = k' ∧ (match bdA E T lo 0, bdA E T hi xs.length with
      | some l, some h => 0 ≤ l ∧ l ≤ h ∧ h ≤ xs.length ∧ N (.fz k ((xs.drop l.toNat).take (h.toNat - l.toNat))) M
      | _, _ => False)
    | some (.sl e k by' ez), .sl k' o off len g => k = k' ∧ (match M[o]? with | some (.mem cs) => cs.length = g | _ => False) ∧ (match bdA E T lo 0, bdA E T hi len with
      | some l, some h => 0 ≤ l ∧ l ≤ h ∧ off + h.toNat * k ≤ g ∧ (if off + l.toNat * k < g then N (.sl k o (off + l.toNat * k) (h.toNat - l.toNat) g) M else N (.fz k []) M)
      | _, _ => False)
    | some .str, .str q => (match bdA E T lo 0, bdA E T hi q.size with
      | some l, some h => 0 ≤ l ∧ l ≤ h ∧ h ≤ q.size ∧ N (.str (q.extract l.toNat h.toNat)) M
      | _, _ => False)
    | _, _ => False
  | .slice t x (some lo) (some hi) (some mx) => match E.tab t, ev E T x with
    | some (.sl e k by' ez), .sl k' o off len g => k = k' ∧ (match M[o]? with | some (.mem cs) => cs.length = g | _ => False) ∧ (match ev E T lo, ev E T hi, ev E T mx with
      | .int _ l, .int _ h, .int _ m => 0 ≤ l ∧ l ≤ h ∧ h ≤ m ∧ off + m.toNat * k ≤ g ∧ N .any M
      | _, _, _ => False)
    | _, _ => False
  | .build t parts => match E.tab t with
    | some (.st fs size z) => fs.all (fun p => (E.tab p.2).isSome) = true ∧ (match fillA (fun i => (placesA E fs)[i]?) (z.map ofV) (parts.toList.map fun p => (p.1, ev E T p.2)) with
      | some cs => N (.agg cs) M
      | none => False)
    | _ => False
  | .makeSlice t x y => match E.tab t, ev E T x, ev E T y with
    | some (.sl e k by' ez), .int _ l, .int _ c => 0 ≤ l ∧ l ≤ c ∧ c * by' ≤ 281474976710656 ∧ N (.sl k M.length 0 l.toNat (c.toNat * k)) (M ++ [.mem (zerosA ez c.toNat)])
    | _, _, _ => False
  | .fieldAddr t x f => match E.tab t with
    | some (.st fs _ _) => (match fs[f]? with
      | some (off, ft) => (match E.tab ft with
        | some d => 0 < d.size ∧ (match ev E T x with
          | .ptr o off0 g => (match M[o]? with | some (.mem cs) => cs.length = g | _ => False) ∧ N (.ptr o (off0 + off) g) M
          | .fp cs => N (.fp (cs.drop off)) M
          | _ => False)
        | none => False)
      | none => False)
    | _ => False
  | .field t x f => match E.tab t, ev E T x with
    | some (.st fs _ _), .agg cs => (match fs[f]? with
      | some (off, ft) => (match E.tab ft with
        | some d => someA (loadA d (cs.drop off)) fun r => N r M
        | none => False)
      | none => False)
    | _, _ => False
  | .indexAddr t x y => match E.tab t, ev E T x, ev E T y with
    | some (.sl e k by' ez), .sl k' o off len g, .int _ i => k = k' ∧ (match M[o]? with | some (.mem cs) => cs.length = g | _ => False) ∧ 0 ≤ i ∧ i < len ∧ N (.ptr o (off + i.toNat * k) g) M
    | some (.sl e k by' ez), .fz k' xs, .int _ i => k = k' ∧ 0 ≤ i ∧ i < xs.length ∧ N (.fp (xs.getD i.toNat .any).cells) M
    | _, _, _ => False
  | .index t x y => match E.tab t, ev E T x, ev E T y with
    | some .str, .str q, .int _ i => 0 ≤ i ∧ i < q.size ∧ N (.int .u8 ((q.data.getD i.toNat 0).toNat : Int)) M
    | _, _, _ => False
  | .extract x i => match ev E T x with
    | .tup vs => i < vs.length ∧ N (vs.getD i .any) M
    | _ => False
  | .buildSlice t len parts => match E.tab t with
    | some (.sl e k by' ez) => len * k ≤ 16777216 ∧ (match fillA (fun i => some (i * k, k)) (zerosA ez len) (parts.toList.map fun p => (p.1, ev E T p.2)) with
      | some cs => N (.sl k M.length 0 len (len * k)) (M ++ [.mem cs])
      | none => False)
    | _ => False
  | .call c => callA E T M N c.callee c.args.toList c.argTypes.toList
  | _ => False

theorem binA_ok {E : Env} {sz : Nat} {T : Tm} {M : List AO} {N : AV → List AO → Prop} {dst : Option Tmp} {ty : TypeId} {pos : String} {after : Array Edge} {gd : Option (Nat × Bool)} (op : BinOp) (t yt : TypeId) (x y : Operand)
    (h : binA E M op t (ev E T x) (ev E T y) fun r => N r M) : OpOk E sz ⟨dst, .binOp op t x y yt, ty, pos, after, gd⟩ T M N := by
  unfold binA at h
  split at h
  · rename_i k a k' b hx hy
    obtain ⟨rfl, h0, h⟩ := h
    exact ok_quo t yt x y k a b hx hy h0 h
  · rename_i k a k' b hx hy
    obtain ⟨rfl, h0, h⟩ := h
    exact ok_rem t yt x y k a b hx hy h0 h
  · rename_i k a k' b hx hy
    obtain ⟨h0, h⟩ := h
    exact ok_shl t yt x y k k' a b hx hy h0 h
  · rename_i k a k' b hx hy
    obtain ⟨h0, h⟩ := h
    exact ok_shr t yt x y k k' a b hx hy h0 h
  · rename_i k a k' b _ _ _ _ hx hy
    obtain ⟨rfl, h⟩ := h
    unfold someA at h
    split at h
    · rename_i r hr; exact ok_int _ t yt x y k a b hx hy r hr h
    · exact h.elim
  · rename_i a b hx hy; exact ok_eqb t yt x y a b h.1 hx hy h.2
  · rename_i a b hx hy; exact ok_neb t yt x y a b h.1 hx hy h.2
  · rename_i a b hx hy; exact ok_strAdd t yt x y a b hx hy h.1 h.2
  · rename_i a b hx hy; exact ok_strEq t yt x y a b hx hy h
  · rename_i a b hx hy; exact ok_strNe t yt x y a b hx hy h
  · rename_i hy
    split at h
    · rename_i e k b z ht; exact ok_eqNil t yt e x y k b z ht hy h
    · exact h.elim
  · rename_i hy
    split at h
    · rename_i e k b z ht; exact ok_neNil t yt e x y k b z ht hy h
    · exact h.elim
  · rename_i us bs hx hy
    split at h
    · rename_i n r hn hr; exact ok_eqSt t yt x y n hn us bs hx hy h.1 r hr h.2
    · exact h.elim
  · exact h.elim

theorem cells_at {M : List AO} {o g : Nat} (h : (match M[o]? with | some (.mem cs) => cs.length = g | _ => False)) : ∃ cs, M[o]? = some (.mem cs) ∧ cs.length = g := by
  split at h
  · rename_i cs hcs; exact ⟨cs, hcs, h⟩
  · exact h.elim

theorem callA_ok {E : Env} {sz : Nat} {T : Tm} {M : List AO} {N : AV → List AO → Prop} {dst : Option Tmp} {ty : TypeId} {pos : String} {after : Array Edge} {gd : Option (Nat × Bool)} (cl : Callee) (args : Array Operand) (ats : Array TypeId)
    (h : callA E T M N cl args.toList ats.toList) : OpOk E sz ⟨dst, .call ⟨cl, args, ats⟩, ty, pos, after, gd⟩ T M N := by
  unfold callA at h
  split at h
  · split at h
    · rename_i g caps hx; exact ok_call _ args ats g caps hx h
    · exact h.elim
  · rename_i x t ha ht
    obtain rfl : args = #[x] := by cases args; simp_all
    obtain rfl : ats = #[t] := by cases ats; simp_all
    split at h
    · rename_i e k b z ht hx; exact ok_len x t 0 _ ht (by rw [hx]; trivial) (by rw [hx]; rfl) h
    · rename_i e k b z k2 xs ht hx; exact ok_len x t xs.length _ ht (by rw [hx]; trivial) (by rw [hx]; rfl) h
    · rename_i s ht hx; exact ok_len x t s.size _ ht (by rw [hx]; trivial) (by rw [hx]; rfl) h
    · rename_i e k b z k2 o off len g ht hx
      obtain ⟨cs, ho, hg⟩ := cells_at h.1
      exact ok_lenl x t _ o off len g e k b z ht hx cs ho hg h.2
    · exact h.elim
  · rename_i x y ha
    obtain rfl : args = #[x, y] := by cases args; simp_all
    split at h
    · rename_i k m k' n hx hy
      obtain ⟨rfl, h⟩ := h
      exact ok_max x y ats k m n hx hy h
    · exact h.elim
  · rename_i x y ha
    obtain rfl : args = #[x, y] := by cases args; simp_all
    split at h
    · rename_i k m k' n hx hy
      obtain ⟨rfl, h⟩ := h
      exact ok_min x y ats k m n hx hy h
    · exact h.elim
  · rename_i x y t t' ha ht
    obtain rfl : args = #[x, y] := by cases args; simp_all
    obtain rfl : ats = #[t, t'] := by cases ats; simp_all
    obtain ⟨rfl, h⟩ := h
    split at h
    · rename_i e k b z k' o off len g ht hx
      obtain ⟨rfl, h⟩ := h
      split at h
      · rename_i cs ho
        obtain ⟨hg, h⟩ := h
        split at h
        · rename_i m ys hy
          obtain ⟨hm, h1, h⟩ := h
          split at h
          · rename_i hw
            obtain ⟨rfl, hl⟩ := hw
            exact ok_append x y t e k b z ht o len g hx cs ho hg hl m ys hy hm h1 h.1 h.2
          · exact ok_appendIn x y t e k b z ht o off len g hx cs ho hg m ys hy hm h1 h.1 h.2
        · exact h.elim
      · exact h.elim
    · rename_i e k b z ht hx
      split at h
      · rename_i m ys hy
        exact ok_appendNil x y t e k b z ht hx m ys hy h.1 h.2.1 h.2.2.1 h.2.2.2.1 h.2.2.2.2
      · exact h.elim
    · exact h.elim
  · rename_i x t ha ht
    obtain rfl : args = #[x] := by cases args; simp_all
    obtain rfl : ats = #[t] := by cases ats; simp_all
    split at h
    · rename_i e k b z k' o off len g ht hx
      obtain ⟨rfl, h⟩ := h
      split at h
      · rename_i cs ho; exact ok_clear x t e k b z ht o off len g hx cs ho h.1 h.2.1 h.2.2
      · exact h.elim
    · exact h.elim
  · exact h.elim

theorem opA_ok {E : Env} {sz : Nat} {T : Tm} {M : List AO} {N : AV → List AO → Prop} {dst : Option Tmp} {ty : TypeId} {pos : String} {after : Array Edge} {gd : Option (Nat × Bool)} (op : Op) (h : opA E T M N op) : OpOk E sz ⟨dst, op, ty, pos, after, gd⟩ T M N := by
  unfold opA at h
  split at h
  · exact ok_move _ h
  · exact ok_assign _ h
  · split at h
    · rename_i b hb; exact ok_pick _ _ _ b hb h
    · exact h.elim
  · exact ok_box _ _ h.1 h.2
  · split at h
    · rename_i d hd; exact ok_alloc _ d hd h.1 h.2
    · exact h.elim
  · split at h
    · rename_i d cs hd hb
      unfold someA at h
      split at h
      · rename_i r hr
        unfold behindA at hb
        split at hb
        · rename_i hx; injection hb with hb; subst hb; exact ok_loadf _ _ d hd _ hx r hr h
        · rename_i o off g hx
          split at hb
          · rename_i cs0 ho
            split at hb
            · rename_i hg; injection hb with hb; subst hb; exact ok_load _ _ o off g d hd hx cs0 ho hg r hr h
            · cases hb
          · cases hb
        · cases hb
      · exact h.elim
    · exact h.elim
  · split at h
    · rename_i d o off g hd hx
      split at h
      · rename_i cs ho; exact ok_store _ _ _ o off g d hd hx cs ho h.1 h.2.1 h.2.2.1 h.2.2.2.1 h.2.2.2.2
      · exact h.elim
    · exact h.elim
  · exact ok_nilCheck _ h.2 h.1
  · exact binA_ok _ _ _ _ _ h
  · split at h
    · rename_i b hb; exact ok_not _ _ b hb h
    · exact h.elim
  · split at h
    · rename_i k n hb; exact ok_neg _ _ k n hb h
    · exact h.elim
  · split at h
    · rename_i d k k0 n hs hd hx; exact ok_conv _ _ _ k k0 n d hs hd hx h
    · exact h.elim
  · obtain ⟨rfl, h⟩ := h
    exact ok_makeFunc _ _ h
  · rename_i t x lo hi
    split at h
    · rename_i e k b z k' xs ht hx
      obtain ⟨rfl, h⟩ := h
      split at h
      · rename_i l h' hl hh; exact ok_slicef _ _ _ _ k xs e b z ht hx l h' hl hh h.1 h.2.1 h.2.2.1 h.2.2.2
      · exact h.elim
    · rename_i e k b z k' o off len g ht hx
      obtain ⟨rfl, hc, h⟩ := h
      obtain ⟨cs, ho, hg⟩ := cells_at hc
      split at h
      · rename_i l h' hl hh; exact ok_slicel _ _ _ _ k o off len g e b z ht hx cs ho hg l h' hl hh h.1 h.2.1 h.2.2.1 h.2.2.2
      · exact h.elim
    · rename_i q ht hx
      split at h
      · rename_i l h' hl hh; exact ok_sliceStr _ _ _ _ ht q hx l h' hl hh h.1 h.2.1 h.2.2.1 h.2.2.2
      · exact h.elim
    · exact h.elim
  · rename_i t x lo hi mx
    split at h
    · rename_i e k b z k' o off len g ht hx
      obtain ⟨rfl, hc, h⟩ := h
      obtain ⟨cs, ho, hg⟩ := cells_at hc
      split at h
      · rename_i k1 l k2 h' k3 m hl hh hm; exact ok_slice3 _ _ _ _ _ k o off len g e b z ht hx cs ho hg _ _ _ l h' m hl hh hm h.1 h.2.1 h.2.2.1 h.2.2.2.1 h.2.2.2.2
      · exact h.elim
    · exact h.elim
  · split at h
    · rename_i fs size z ht
      obtain ⟨hfs, h⟩ := h
      split at h
      · rename_i cs hcs; exact ok_build _ fs size z _ ht hfs cs hcs h
      · exact h.elim
    · exact h.elim
  · split at h
    · rename_i e k b z kl l kc c0 ht hx hy
      obtain ⟨h0, h1, h2, h⟩ := h
      have el : ((l.toNat : Nat) : Int) = l := by omega
      have ec : ((c0.toNat : Nat) : Int) = c0 := by omega
      have hb2 : c0.toNat * b ≤ 281474976710656 := by
        rw [← ec, ← Int.natCast_mul] at h2; exact Int.ofNat_le.1 h2
      exact ok_makeSlice _ e _ _ k b z ht kl kc l.toNat c0.toNat (by rw [el]; exact hx) (by rw [ec]; exact hy) (by omega) hb2 h
    · exact h.elim
  · split at h
    · rename_i fs size z ht
      split at h
      · rename_i off ft hf
        split at h
        · rename_i d hd
          obtain ⟨hpos, h⟩ := h
          split at h
          · rename_i o off0 g hx
            obtain ⟨cs, ho, hg⟩ := cells_at h.1
            exact ok_fieldAddr _ _ _ o off0 g off ft fs size z d ht hf hd hpos hx cs ho hg h.2
          · rename_i cs hx; exact ok_fieldAddrf _ _ _ off ft fs size z d ht hf hd hpos cs hx h
          · exact h.elim
        · exact h.elim
      · exact h.elim
    · exact h.elim
  · split at h
    · rename_i fs size z cs ht hx
      split at h
      · rename_i off ft hf
        split at h
        · rename_i d hd
          unfold someA at h
          split at h
          · rename_i r hr; exact ok_field _ _ _ off ft fs size z d ht hf hd cs hx r hr h
          · exact h.elim
        · exact h.elim
      · exact h.elim
    · exact h.elim
  · split at h
    · rename_i e k b z k' o off len g ik i ht hx hy
      obtain ⟨rfl, hc, h0, h1, h⟩ := h
      obtain ⟨cs, ho, hg⟩ := cells_at hc
      exact ok_indexAddr _ _ _ k o off len g e b z ht hx ik i hy cs ho hg h0 h1 h
    · rename_i e k b z k' xs ik i ht hx hy
      obtain ⟨rfl, h0, h1, h⟩ := h
      exact ok_indexAddrf _ _ _ k xs e b z ht hx ik i hy h0 h1 h
    · exact h.elim
  · split at h
    · rename_i q ik i ht hx hy; exact ok_indexStr _ _ _ ht q hx ik i hy h.1 h.2.1 h.2.2
    · exact h.elim
  · split at h
    · rename_i vs hx; exact ok_extract _ _ vs hx h.1 h.2
    · exact h.elim
  · split at h
    · rename_i e k b z ht
      obtain ⟨hl, h⟩ := h
      split at h
      · rename_i cs hcs; exact ok_buildSlice _ e _ k b z _ ht (by simpa using hl) cs hcs h
      · exact h.elim
    · exact h.elim
  · exact callA_ok _ _ _ h
  · exact h.elim

/-- What a guard decides. -/
def gA : Option Bool → Prop → Prop → Prop
  | some true, p, _ => p
  | some false, _, q => q
  | none, _, _ => False
theorem gA_true {p q : Prop} (h : gA (some true) p q) : p := h
theorem gA_false {p q : Prop} (h : gA (some false) p q) : q := h
/-- A list of operations; ds: where those of the region put what they tell. -/
def alA (E : Env) (sz : Nat) (ds : List (Option Tmp)) (Q : Tm → List AO → Prop) : List Oper → Tm → List AO → Prop
  | [], T, M => Q T M
  | o :: rest, T, M => fits sz o.dst ∧ match o.guard with
    | none => opA E T M (fun r M1 => alA E sz ds Q rest (putA T o.dst r) M1) o.op
    | some g => gA (guardA ds T (some g)) (opA E T M (fun r M1 => alA E sz ds Q rest (putA T o.dst r) M1) o.op) (alA E sz ds Q rest (putA T o.dst .any) M)
theorem alA_ok {E : Env} {n sz : Nat} {ops : Array Oper} {Q : Exit → Tm → List AO → Prop} : ∀ {l : List Oper} {T : Tm} {M : List AO}, alA E sz (ops.toList.map (·.dst)) (Q .normal) l T M → AL E n sz ops l T M Q
  | [], T, M, h => .nil h
  | ⟨dst, op, ty, pos, after, gd⟩ :: rest, T, M, ⟨hd, h⟩ => by
    cases gd with
    | none => exact .cons rfl hd ((opA_ok op h).mono fun r M1 hr => alA_ok hr)
    | some g =>
      simp only at h
      cases hg : guardA (ops.toList.map (·.dst)) T (some g) with
      | none => rw [hg] at h; exact h.elim
      | some b =>
        rw [hg] at h
        cases b with
        | true => exact .guarded true hg hd (fun _ => (opA_ok op (gA_true h)).mono fun r M1 hr => alA_ok hr) (fun e => by cases e)
        | false => exact .guarded false hg hd (fun e => by cases e) (fun _ => alA_ok (gA_false h))
theorem AW.ops {E : Env} {n sz id : Nat} {l : List Oper} {T : Tm} {M : List AO} {Q : Exit → Tm → List AO → Prop} (h : alA E sz (l.map (·.dst)) (Q .normal) l T M) : AW E n sz (.region id l.toArray false) T M Q := .region (alA_ok h)
/-- Two stretches of a list. -/
theorem upon_mono {P : Program} {o : Oper} {a : Act} {next next' : Act → World → Prop} {Q Q' : Exit → Act → World → Prop} (hn : ∀ a w, next a w → next' a w) (hp : ∀ ch a w, Q (.panic ch) a w → Q' (.panic ch) a w) (ho : ∀ a w, Q .outgrown a w → Q' .outgrown a w)
    {r : Result Next} (h : o.upon P a next Q r) : o.upon P a next' Q' r := by
  unfold Oper.upon at h ⊢
  split at h
  · exact hn _ _ h
  · exact hn _ _ h
  · exact hn _ _ h
  · refine h.mono fun e w' he => ?_
    cases e with
    | returned v => exact hn _ _ he
    | panicked ch => exact hp _ _ _ he
    | outgrown => obtain ⟨a0, w0, hq⟩ := he; exact ⟨a0, w0, ho _ _ hq⟩
  · exact h.mono fun v w' he => hn _ _ he
  · exact hp _ _ _ h
  · exact h.elim
theorem wpList_append {P : Program} {ops : Array Oper} {l2 : List Oper} {K K0 : Exit → Act → World → Prop} (hn : ∀ a w, K .normal a w → wpList P ops K0 l2 a w) (hp : ∀ ch a w, K (.panic ch) a w → K0 (.panic ch) a w) (ho : ∀ a w, K .outgrown a w → K0 .outgrown a w) :
    ∀ {l1 : List Oper} {a : Act} {w : World}, wpList P ops K l1 a w → wpList P ops K0 (l1 ++ l2) a w
  | [], a, w, h => hn _ _ h
  | o :: l1, a, w, h => by
    simp only [List.cons_append]
    unfold wpList at h ⊢
    split at h
    · rename_i hw
      rw [if_pos hw]
      rcases h with h | ⟨h1, a0, w0, h2⟩
      · exact .inl (upon_mono (fun a w h => wpList_append hn hp ho h) hp ho h)
      · exact .inr ⟨h1, a0, w0, ho _ _ h2⟩
    · rename_i hw
      rw [if_neg hw]
      exact wpList_append hn hp ho h
theorem AL.split {E : Env} {n sz : Nat} {ops : Array Oper} {l1 l2 : List Oper} {T : Tm} {M : List AO} {Q : Exit → Tm → List AO → Prop} (h : AL E n sz ops l1 T M (thenA (fun T1 M1 => AL E n sz ops l2 T1 M1 Q) Q)) : AL E n sz ops (l1 ++ l2) T M Q := by
  intro c a w K s hK
  refine wpList_append (K := Post E n sz (thenA (fun T1 M1 => AL E n sz ops l2 T1 M1 Q) Q) c M w) ?_ ?_ ?_ (h c a w _ s fun _ _ _ hp => hp)
  · rintro a1 w1 ⟨T1, M1, c1, hq, hf, hw, hs⟩
    exact hq c1 a1 w1 K hs fun e a' w' hp => hK e a' w' (hp.from hf hw)
  · rintro ch a1 w1 hp; exact hK _ _ _ hp
  · rintro a1 w1 hp; exact hK _ _ _ hp
/-- The same state, told otherwise, in the midst of a list. -/
theorem AL.retell {E : Env} {n sz : Nat} {ops : Array Oper} {l : List Oper} {T T2 : Tm} {M M2 : List AO} {Q : Exit → Tm → List AO → Prop}
    (hk : ∀ c a w, St E c sz T M a w → ∃ c2, FrN n c M w.heap c2 M2 w.heap ∧ St E c2 sz T2 M2 a w) (h : AL E n sz ops l T2 M2 Q) : AL E n sz ops l T M Q := by
  intro c a w K s hK
  obtain ⟨c2, hf, s2⟩ := hk c a w s
  exact h c2 a w K s2 fun e a' w' hp => hK e a' w' (hp.from hf (.refl _))
end Go.Ax
