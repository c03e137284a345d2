/- The law of needless clues. -/
import Derived.Test.YtnbfoiidlbfbeaaGreatP23
set_option linter.unusedVariables false
set_option linter.unusedSimpArgs false
namespace Go.Ax
open Go.Proofs

theorem tell_live {K : List AO} {o : Nat} {p : Int} {cs : List Clu} (ho : K[o]? = some (.mem (cells cs))) : TellL K 0 [.agg [iv p, .sl 3 o 0 cs.length (cs.length * 3)]] [pv p cs] :=
  .cons (tell_agg (.cons (.scal rfl) (.cons (tell_clues ho (Nat.zero_le _)) .nil))) .nil
/-- The memory of the law: its argument, the puzzle made of it, where that stands. -/
structure LM (M K : List AO) (p : Int) (cs : List Clu) (ox c6 : Nat) (X : List AV) : Prop where
  pre : M <+: K
  k1 : K[M.length]? = some (.mem [iv p, .fz 3 (cs.map cv)])
  kx : K[ox]? = some (.mem X)
  k6 : K[c6]? = some (.mem [iv p, .sl 3 ox 0 cs.length (cs.length * 3)])
  ge : M.length < ox ∧ M.length < c6 ∧ ox ≠ c6
theorem LM.app {M K : List AO} {p : Int} {cs : List Clu} {ox c6 : Nat} {X : List AV} (h : LM M K p cs ox c6 X) (Y : List AO) : LM M (K ++ Y) p cs ox c6 X :=
  ⟨h.pre.trans (List.prefix_append _ _), app_obj h.k1 Y, app_obj h.kx Y, app_obj h.k6 Y, h.ge⟩
theorem pre_set {M K : List AO} (h : M <+: K) {o : Nat} (ho : M.length ≤ o) (x : AO) : M <+: K.set o x := by
  obtain ⟨J, rfl⟩ := h
  exact set_keep ho
theorem LM.setx {M K : List AO} {p : Int} {cs : List Clu} {ox c6 : Nat} {X : List AV} (h : LM M K p cs ox c6 X) (X' : List AV) : LM M (K.set ox (.mem X')) p cs ox c6 X' := by
  have := h.ge
  exact ⟨pre_set h.pre (by omega) _, by rw [List.getElem?_set_ne (by omega)]; exact h.k1, List.getElem?_set_self (lt_of_obj h.kx), by rw [List.getElem?_set_ne (by omega)]; exact h.k6, h.ge⟩
theorem LM.setg {M K : List AO} {p : Int} {cs : List Clu} {ox c6 og : Nat} {X : List AV} (h : LM M K p cs ox c6 X) (x : AO) (hg : M.length < og ∧ og ≠ ox ∧ og ≠ c6) : LM M (K.set og x) p cs ox c6 X :=
  ⟨pre_set h.pre (by omega) _, by rw [List.getElem?_set_ne (by omega)]; exact h.k1, by rw [List.getElem?_set_ne (by omega)]; exact h.kx, by rw [List.getElem?_set_ne (by omega)]; exact h.k6, h.ge⟩
end Go.Ax
