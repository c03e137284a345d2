/- From a contract at the empty memory to a call in a world that is given. -/
import Derived.Test.YtnbfoiidlbfbeaaGreatOp1
import Derived.WideShapes
import Derived.Below
set_option linter.unusedVariables false
set_option linter.unusedSimpArgs false
namespace Go.Ax
open Go.Proofs
open Go.WideShapes
open Go.RowKit (Below)

theorem allCtx_sim {E : Env} (hG : ∀ g, E.G g = none) (w : World) : SimE E (allCtx w) [] w.heap :=
  ⟨⟨fun o cs h => (by simp at h), fun o o' cs cs' h => (by simp at h), fun o cs h => (by simp at h), fun b hb => hb⟩, fun g cs h => by rw [hG] at h; cases h⟩
theorem arg_has {E : Env} {H : Type} {enc : TypeId × Value → H} {w : World} {spare : Nat → Bool} {held : Bool} {r : Reach} {base n : Nat} {t : TypeId} {v : Value} {d : DataW H} {ps : List MemPlace} (ht : told E n t = true)
    (hv : Value.okWide E.P w r base t v) (h : DataW.Trod enc E.P w 0 spare held t v d ps) : ∃ al, R (allCtx w) [] w.heap (pk E t al) v ∧ Has E t al := by
  obtain ⟨fuel, hf⟩ := h
  obtain ⟨al, h1, h2⟩ := trod_has n t fuel _ _ ht hf
  refine ⟨al, ?_, h2⟩
  have one : ∀ (a : AV), al = [a] → v.cells = #[v] → R (allCtx w) [] w.heap a v := fun a e hc => by
    subst e
    rw [hc] at h1
    obtain ⟨u, hu, hr⟩ := h1.2 0 a rfl
    simp at hu; subst hu; exact hr
  cases h2 with
  | int htt hw => obtain ⟨m, rfl⟩ := okWide_int (E.ok t _ htt).1 hv; unfold pk; rw [htt]; exact one _ rfl rfl
  | bool htt => obtain ⟨m, rfl⟩ := okWide_bool (E.ok t _ htt).1 hv; unfold pk; rw [htt]; exact one _ rfl rfl
  | str htt _ => obtain ⟨m, rfl⟩ := okWide_string (E.ok t _ htt).1 hv; unfold pk; rw [htt]; exact one _ rfl rfl
  | sl htt _ _ => obtain ⟨a, len, cap, rfl⟩ := okWide_slice (E.ok t _ htt).1.1 hv; unfold pk; rw [htt]; exact one _ rfl rfl
  | st htt _ =>
    obtain ⟨u, hu, hp⟩ := Option.map_eq_some_iff.1 (E.ok t _ htt).1.1
    cases u <;> simp at hp
    obtain ⟨cs, rfl, _⟩ := okWide_struct hu hv
    unfold pk; rw [htt]
    have := R.agg' (l := cs.toList) h1
    simpa using this
/-- A law that answers true. -/
theorem AC.law {E : Env} {f : FuncId} {args : List AV} (h : AC E f args [] (fun r M' => r = .bool true ∧ M' = [])) (hG : ∀ g, E.G g = none) (w : World) (vs : Array Value) (hr : Rl (allCtx w) [] w.heap args vs.toList) :
    Calls E.P f vs w fun e w' => e = .returned (.bool true) ∧ Below w.heap.size w w' :=
  (h.2 (allCtx w) w vs (allCtx_sim hG w) hr).mono fun e w' ⟨r, v, M', c', he, ⟨h1, h2⟩, hf, hw, hs, hR⟩ => by
    subst h1
    cases hR
    exact ⟨he, ⟨hw.os, hw.tape, hw.output, hw.size, fun k hk => hf.heap k hk⟩⟩
theorem has_int {E : Env} {t : TypeId} {k : IntKind} {al : List AV} (ht : E.tab t = some (.int k)) (h : Has E t al) : ∃ n, al = [.int k n] ∧ (Lit.int k n).wf = true := by
  cases h with
  | int h1 hw => rw [ht] at h1; injection h1 with h1; injection h1 with h1; subst h1; exact ⟨_, rfl, hw⟩
  | bool h1 => rw [ht] at h1; cases h1
  | str h1 _ => rw [ht] at h1; cases h1
  | sl h1 _ _ => rw [ht] at h1; cases h1
  | st h1 _ => rw [ht] at h1; cases h1
theorem has_bool {E : Env} {t : TypeId} {al : List AV} (ht : E.tab t = some .bool) (h : Has E t al) : ∃ b, al = [.bool b] := by
  cases h with
  | int h1 hw => rw [ht] at h1; cases h1
  | bool h1 => exact ⟨_, rfl⟩
  | str h1 _ => rw [ht] at h1; cases h1
  | sl h1 _ _ => rw [ht] at h1; cases h1
  | st h1 _ => rw [ht] at h1; cases h1
theorem has_str {E : Env} {t : TypeId} {al : List AV} (ht : E.tab t = some .str) (h : Has E t al) : ∃ s, al = [.str s] ∧ s.size ≤ maxLen := by
  cases h with
  | int h1 hw => rw [ht] at h1; cases h1
  | bool h1 => rw [ht] at h1; cases h1
  | str h1 hl => exact ⟨_, rfl, hl⟩
  | sl h1 _ _ => rw [ht] at h1; cases h1
  | st h1 _ => rw [ht] at h1; cases h1
theorem has_sl {E : Env} {t e : TypeId} {k b : Nat} {z : List Value} {al : List AV} (ht : E.tab t = some (.sl e k b z)) (h : Has E t al) : ∃ xs, al = [.fz k xs] ∧ xs.length ≤ maxLen ∧ HasE E e k xs := by
  cases h with
  | int h1 hw => rw [ht] at h1; cases h1
  | bool h1 => rw [ht] at h1; cases h1
  | str h1 _ => rw [ht] at h1; cases h1
  | sl h1 hl h => rw [ht] at h1; injection h1 with h1; injection h1 with h1 h2; subst h1; subst h2; exact ⟨_, rfl, hl, h⟩
  | st h1 _ => rw [ht] at h1; cases h1
theorem has_st {E : Env} {t : TypeId} {fs : List (Nat × TypeId)} {size : Nat} {z : List Value} {al : List AV} (ht : E.tab t = some (.st fs size z)) (h : Has E t al) : HasL E fs al := by
  cases h with
  | int h1 hw => rw [ht] at h1; cases h1
  | bool h1 => rw [ht] at h1; cases h1
  | str h1 _ => rw [ht] at h1; cases h1
  | sl h1 _ _ => rw [ht] at h1; cases h1
  | st h1 h => rw [ht] at h1; injection h1 with h1; injection h1 with h1; subst h1; exact h
theorem HasE.map {E : Env} {e : TypeId} {k : Nat} {α : Type} (f : α → AV) (hf : ∀ al, Has E e al → ∃ a, pk E e al = f a) : ∀ {xs : List AV}, HasE E e k xs → ∃ l : List α, xs = l.map f
  | [], _ => ⟨[], rfl⟩
  | _ :: xs, .cons h hk hc t => by
    obtain ⟨a, ha⟩ := hf _ h
    obtain ⟨l, hl⟩ := HasE.map f hf t
    exact ⟨a :: l, by rw [ha, hl]; rfl⟩
theorem wf_i64 {n : Int} (h : (Lit.int .i64 n).wf = true) : -9223372036854775808 ≤ n ∧ n ≤ 9223372036854775807 := by
  simpa [Lit.wf, IntKind.min, IntKind.max, IntKind.signed, IntKind.bits] using h
end Go.Ax
