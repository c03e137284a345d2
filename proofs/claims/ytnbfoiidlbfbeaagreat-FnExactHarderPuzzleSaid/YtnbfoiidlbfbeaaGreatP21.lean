/- Clues that are not needed. -/
import Derived.Test.YtnbfoiidlbfbeaaGreatP20
set_option linter.unusedVariables false
set_option linter.unusedSimpArgs false
namespace Go.Ax
open Go.Proofs

def needP (p : Nat) (cs : List Clu) (k : Nat) : Bool := decide ((hidL p (drop1 cs k)).length = (hidL p cs).length)
def needTo (p : Nat) (cs : List Clu) (i : Nat) : List Int := ((List.range i).filter (needP p cs)).map fun (k : Nat) => (k : Int)
theorem needTo_succ (p : Nat) (cs : List Clu) (i : Nat) : needTo p cs (i + 1) = needTo p cs i ++ if needP p cs i = true then [(i : Int)] else [] := by
  unfold needTo
  rw [List.range_succ, List.filter_append, List.map_append]
  congr 1
  by_cases h : needP p cs i = true
  · rw [if_pos h, List.filter_cons_of_pos h]; rfl
  · rw [if_neg h, List.filter_cons_of_neg h]; rfl
theorem needTo_length (p : Nat) (cs : List Clu) (i : Nat) : (needTo p cs i).length ≤ i := by
  unfold needTo
  rw [List.length_map]
  exact Nat.le_trans (List.length_filter_le _ _) (by simp)
theorem drop1_mem {cs : List Clu} {k : Nat} {c : Clu} (h : c ∈ drop1 cs k) : c ∈ cs := by
  rcases List.mem_append.1 h with h | h
  · exact List.mem_of_mem_take h
  · exact List.mem_of_mem_drop h
theorem Grow.keep {k n : Nat} {xs : List AV} {a : AV} {M' : List AO} (h : Grow k n xs a M') (X : List AO) : Grow k n xs a (M' ++ X) := by
  rcases h with h | ⟨o, h1, h2, h3⟩
  · exact .inl h
  · exact .inr ⟨o, h1, h2, app_obj h3 X⟩
theorem Grow.weaken {k n m : Nat} {xs : List AV} {a : AV} {M' : List AO} (h : Grow k n xs a M') (hm : m ≤ n) : Grow k m xs a M' := by
  rcases h with h | ⟨o, h1, h2, h3⟩
  · exact .inl h
  · exact .inr ⟨o, h1, by omega, h3⟩
theorem grow_new {n q : Nat} {L L2 : List Int} {x : Int} {M' : List AO} (hL : ints L = []) (hs : L2 = L ++ [x]) (hq : M'[q]? = some (.mem [iv x])) (hn : n ≤ q) : Grow 1 n (ints L2) (.sl 1 q 0 1 1) M' := by
  have : L = [] := by simpa [ints] using hL
  subst this
  subst hs
  exact .inr ⟨q, rfl, hn, hq⟩
theorem grow_more {n q : Nat} {L L2 : List Int} {x : Int} {M' : List AO} (hs : L2 = L ++ [x]) (hq : M'[q]? = some (.mem (flat (ints L)))) (hn : n ≤ q) : Grow 1 n (ints L2) (.sl 1 q 0 (L.length + 1) (L.length + 1)) (M'.set q (.mem (ints L ++ [.int .i64 x]))) := by
  subst hs
  refine .inr ⟨q, by rw [ints_length]; simp, hn, ?_⟩
  rw [List.getElem?_set_self (lt_of_obj hq), flat_ints, ints_append]; rfl
end Go.Ax
