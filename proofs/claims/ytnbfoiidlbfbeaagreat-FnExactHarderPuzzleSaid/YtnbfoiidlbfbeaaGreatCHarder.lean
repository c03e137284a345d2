/- FnExactHarderPuzzle answers true for every input and leaves its argument as it was.
   No conditions. -/
import Derived.Test.YtnbfoiidlbfbeaaGreatRows
import Derived.Test.YtnbfoiidlbfbeaaGreatP28
import Derived.Test.YtnbfoiidlbfbeaaGreatOp2
import Derived.WalkKit
import Derived.ProofKit
import Derived.OpenShut
import Derived.ChangeOld
import Derived.Below
import Derived.SizedLaws
import Derived.Carry
namespace Go.Proofs.YtnbfoiidlbfbeaaGreat.harderPuzzle
open Go.ChangeShapes Go.WideShapes Go.ChangeAt Go.RowKit
open Go.Ax
set_option linter.unusedVariables false

theorem own : ownKnob Tryz.prog.godebug = none := by kernel_rfl
theorem laidOut : laidOutB Tryz.prog = true := by kernel_rfl
theorem clue_of {t : TypeId} (ht : E.tab t = some (.st [(0, 3), (1, 3), (2, 3)] 3 [.int .i64 0, .int .i64 0, .int .i64 0])) (h3 : E.tab 3 = some (.int .i64)) (al : List AV) (h : Has E t al) : ∃ c : Clu, pk E t al = cv c := by
  have hl := has_st ht h
  cases hl with
  | cons h1 hl =>
    cases hl with
    | cons h2 hl =>
      cases hl with
      | cons h3' hl =>
        cases hl
        obtain ⟨a, rfl, _⟩ := has_int h3 h1
        obtain ⟨b, rfl, _⟩ := has_int h3 h2
        obtain ⟨c, rfl, _⟩ := has_int h3 h3'
        exact ⟨(a, b, c), by unfold pk; rw [ht]; rfl⟩
theorem puzzle_of (al : List AV) (h : Has E 46 al) : ∃ (p : Int) (cs : List Clu), pk E 46 al = pv p cs ∧ cs.length ≤ 9223372036854775807 := by
  have hl := has_st (t := 46) rfl h
  cases hl with
  | cons h1 hl =>
    cases hl with
    | cons h2 hl =>
      cases hl
      obtain ⟨a, rfl, _⟩ := has_int (t := 3) rfl h1
      obtain ⟨xs, rfl, hx, hxs⟩ := has_sl (t := 44) rfl h2
      obtain ⟨cs, rfl⟩ := HasE.map cv (clue_of rfl rfl) hxs
      exact ⟨a, cs, rfl, by rw [List.length_map] at hx; exact hx⟩
set_option maxRecDepth 100000 in
theorem lifted (os : Os) (started : os.Started) (H : Type) (enc : TypeId × Value → H) :
    ReturnsInHanded {} Tryz.checked os 4 .any (Rows.fnExactHarderPuzzleSpec.pre6 enc Tryz.prog Tryz.f4 Rows.fnExactHarderPuzzleRow.domain false) (Rows.fnExactHarderPuzzleSpec.post enc Tryz.prog Tryz.f4 false true false false) := by
  refine returnsInHanded_of_change_sized (C := Tryz.checked) own started (by kernel_rfl) Tryz.func4
    (ChangeSpec.witness6 (enc := enc) (C := Tryz.checked) false ⟨#[], #[.agg #[.int .i64 0, .slice none 0 0]], []⟩ 8 (by kernel_rfl) (by kernel_rfl) (by kernel_rfl) (by kernel_rfl)) ?_
  intro W base args ds gs before hval0 hW hcnd hsz0 _
  have hval : ∀ (j : Nat) t v, Tryz.f4.params[j]? = some t → args[j]? = some v → Value.okWide Tryz.prog W .any base t v := hval0
  have hW' := hW
  obtain ⟨p, q, hA0, hV, rfl, hfz, hnd⟩ := hW
  have hA : DataW.TrodAll enc Tryz.prog W 0 (fun _ => true) true Tryz.f4.params.toList args.toList ds p := hA0
  rw [Tryz.params4] at hA hval
  obtain ⟨v0, vs0, d0, ds0, p0, q0, hargs, rfl, rfl, h0, r0⟩ := trodAll_cons hA
  obtain ⟨rfl, rfl, rfl⟩ := trodAll_nil r0
  obtain rfl : args = #[v0] := by cases args; simp_all
  obtain ⟨rfl, rfl⟩ := trodVars_none hV
  have lt0 : ∀ x ∈ p0, x.block < W.heap.size := by obtain ⟨m, hm⟩ := h0; exact DataW.trod_lt m _ _ _ hm
  obtain ⟨al, hR, hH⟩ := arg_has (E := E) (n := 5) (t := 46) rfl (hval 0 46 v0 rfl rfl) h0
  obtain ⟨pp, cs, hpk, hlen⟩ := puzzle_of al hH
  rw [hpk] at hR
  refine (AC.law (FnHarder_ok pp cs [] hlen) EG W #[v0] (.cons hR (.nil ..))).mono fun e W' ⟨he, bel⟩ => ?_
  subst he
  exact ⟨_, rfl, _, _, _, [], _, [], hW', trodAll_mk1 (shut_bool Tryz.underlying4 _), (trodAll_cons_mk (Below.trod laidOut (by kernel_rfl) (of_decide_eq_true (by kernel_rfl)) h0 bel lt0) trodAll_mk0), rfl, bel.frame _, fun h => by cases h⟩
theorem over : Rows.fnExactHarderPuzzleRow.holds Tryz.pinned (OpenSpec.ofChange Rows.fnExactHarderPuzzleSpec) :=
  OpenClaim.holds_of_wide 4 Tryz.f4 rfl rfl rfl rfl rfl rfl rfl ⟨rfl, rfl, rfl, rfl, rfl⟩ rfl rfl rfl rfl rfl (by kernel_rfl) Tryz.func4 (by kernel_rfl)
    (of_decide_eq_true (by kernel_rfl)) (by unfold Func.isWrapper; first | (rw [if_pos (by decide +kernel)]; kernel_rfl) | (rw [if_neg (by decide +kernel)]; exact ⟨rfl, rfl⟩))
    (fun os started H enc _ => lifted os started H enc)
theorem proved : Rows.FnExactHarderPuzzleSaid := over
end Go.Proofs.YtnbfoiidlbfbeaaGreat.harderPuzzle
namespace Go.Proofs.YtnbfoiidlbfbeaaGreat
theorem harderPuzzle_holds : Rows.FnExactHarderPuzzleSaid := harderPuzzle.proved
#print axioms harderPuzzle_holds
end Go.Proofs.YtnbfoiidlbfbeaaGreat
