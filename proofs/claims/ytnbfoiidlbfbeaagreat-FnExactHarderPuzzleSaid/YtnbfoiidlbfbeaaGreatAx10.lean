/- Loops that count; what a body leaves. -/
import Derived.Test.YtnbfoiidlbfbeaaGreatAx9
set_option linter.unusedVariables false
set_option linter.unusedSimpArgs false
namespace Go.Ax

theorem wrap_in {n : Int} (h0 : -9223372036854775808 ≤ n) (h1 : n ≤ 9223372036854775807) : IntKind.i64.wrap n = n := by
  simp only [IntKind.wrap, IntKind.bits, IntKind.signed]
  simp only [Bool.true_and, decide_eq_true_eq, ge_iff_le]
  split <;> omega
theorem wrap_succ {i : Nat} (h : i < 9223372036854775807) : IntKind.i64.wrap ((i : Int) + 1) = ((i + 1 : Nat) : Int) := by
  rw [wrap_in (by omega) (by omega)]; exact (Int.natCast_succ i).symm
theorem wrap_pred {j : Nat} (h : j < 9223372036854775807) : IntKind.i64.wrap (((j + 1 : Nat) : Int) - 1) = (j : Int) := by
  rw [wrap_in (by omega) (by omega)]; omega
/-- A loop that is left in its first round. -/
theorem AW.once {E : Env} {n : Nat} {x : Code} {sz : Nat} {T : Tm} {M : List AO} {Q : Exit → Tm → List AO → Prop} (h : AW E n sz x T M (thenA (fun _ _ => False) Q)) : AW E n sz (.loop x) T M Q :=
  .loop (fun _ T' M' => T' = T ∧ M' = M) 0 ⟨rfl, rfl⟩ fun d T' M' hI => by
    obtain ⟨rfl, rfl⟩ := hI
    refine h.mono fun e T2 M2 hq => ?_
    cases e with
    | normal => exact hq.elim
    | exit i => exact hq
    | goto l => exact hq
    | ret => exact hq
    | panic ch => exact hq
    | outgrown => exact hq
theorem AC.det {E : Env} {f : FuncId} {args : List AV} {M M2 : List AO} {v : AV} {N : AV → List AO → Prop} (h : AC E f args M fun r M' => r = v ∧ M' = M2) (hN : N v M2) : AC E f args M N :=
  h.mono (by rintro _ _ ⟨rfl, rfl⟩; exact hN)
theorem AW.condT {E : Env} {n : Nat} {x : Operand} {y z : Code} {sz : Nat} {T : Tm} {M : List AO} {Q : Exit → Tm → List AO → Prop} (hb : ev E T x = .bool true) (h : AW E n sz y T M Q) : AW E n sz (.cond x y z) T M Q :=
  .cond true hb (fun _ => h) (fun e => by cases e)
theorem AW.condF {E : Env} {n : Nat} {x : Operand} {y z : Code} {sz : Nat} {T : Tm} {M : List AO} {Q : Exit → Tm → List AO → Prop} (hb : ev E T x = .bool false) (h : AW E n sz z T M Q) : AW E n sz (.cond x y z) T M Q :=
  .cond false hb (fun e => by cases e) (fun _ => h)
theorem AW.blockS {E : Env} {n id : Nat} {x y : Code} {sz : Nat} {T : Tm} {M : List AO} {Q : Exit → Tm → List AO → Prop} (h : AW E n sz (.seq x y) T M (inBlockA id Q)) : AW E n sz (.block id (.seq x y)) T M Q := .block h
/-- A value that names no memory. -/
def scal1 : AV → Bool
  | .any | .bool _ | .int .. | .str _ | .nilp | .nili | .nilf | .nils | .ifc => true
  | _ => false
def scal : AV → Bool
  | .tup vs => vs.all scal1
  | .agg vs => vs.all scal1
  | a => scal1 a
theorem Cl.of_scal1 {n : Nat} {a : AV} (h : scal1 a = true) : Cl n a := by
  cases a <;> first | exact .any | exact .bool _ | exact .int _ _ | exact .str _ | exact .nilp | exact .nili | exact .nilf | exact .nils | exact .ifc | cases h
theorem Cl.of_scal {n : Nat} {a : AV} (h : scal a = true) : Cl n a := by
  unfold scal at h
  split at h
  · exact .tup _ fun i b hi => .of_scal1 (List.all_eq_true.1 h b (List.mem_of_getElem? hi))
  · exact .agg _ fun i b hi => .of_scal1 (List.all_eq_true.1 h b (List.mem_of_getElem? hi))
  · exact .of_scal1 h
theorem Tell.scal {M : List AO} {n : Nat} {a : AV} (h : scal a = true) : Tell M n a a := .same _ (.of_scal h)
/-- What a body leaves that made nothing that lasts. -/
theorem left {E : Env} {n : Nat} {res : List ResultVar} {T : Tm} {M J : List AO} {rs : List AV} {r : AV} {e : Exit} {Q : AV → List AO → Prop} (he : e = .normal ∨ e = .ret) (hcl : ClM M) (hn : n ≤ M.length) (hrs : resA E (M ++ J) T res = some rs) (ht : Tell (M ++ J) M.length (packA rs) r) (hq : Q r M) :
    Fin E n res Q e T (M ++ J) := ⟨he, rs, M, J, r, hrs, rfl, hn, fun _ => hcl, ht, hq⟩
theorem left0 {E : Env} {n : Nat} {res : List ResultVar} {T : Tm} {M : List AO} {rs : List AV} {r : AV} {e : Exit} {Q : AV → List AO → Prop} (he : e = .normal ∨ e = .ret) (hcl : ClM M) (hn : n ≤ M.length) (hrs : resA E M T res = some rs) (ht : Tell M M.length (packA rs) r) (hq : Q r M) :
    Fin E n res Q e T M := ⟨he, rs, M, [], r, hrs, by simp, hn, fun _ => hcl, ht, hq⟩
theorem leftS {E : Env} {n : Nat} {res : List ResultVar} {T : Tm} {M : List AO} {rs : List AV} {r : AV} {e : Exit} {Q : AV → List AO → Prop} (he : e = .normal ∨ e = .ret) (hcl : ClM M) (hn : n ≤ M.length) (hrs : resA E M T res = some rs) (hr : packA rs = r) (hs : scal r = true) (hq : Q r M) :
    Fin E n res Q e T M := left0 he hcl hn hrs (by rw [hr]; exact .scal hs) hq
theorem leftC {E : Env} {n : Nat} {res : List ResultVar} {T : Tm} {M : List AO} {rs : List AV} {r : AV} {e : Exit} {Q : AV → List AO → Prop} (he : e = .normal ∨ e = .ret) (hcl : ClM M) (hn : n ≤ M.length) (hrs : resA E M T res = some rs) (hr : packA rs = r) (hc : Cl M.length r) (hq : Q r M) :
    Fin E n res Q e T M := left0 he hcl hn hrs (by rw [hr]; exact .same _ hc) hq
/-- What a body leaves: all that there is. -/
theorem leftN {E : Env} {n : Nat} {res : List ResultVar} {T : Tm} {M : List AO} {rs : List AV} {r : AV} {e : Exit} {Q : AV → List AO → Prop} (he : e = .normal ∨ e = .ret) (hn : n ≤ M.length) (hrs : resA E M T res = some rs) (hr : packA rs = r) (hc : Cl M.length r) (hq : Q r M) :
    Fin E n res Q e T M := ⟨he, rs, M, [], r, hrs, by simp, hn, fun h => h, by rw [hr]; exact .same _ hc, hq⟩
theorem leftJ {E : Env} {n : Nat} {res : List ResultVar} {T : Tm} {M J : List AO} {rs : List AV} {r : AV} {e : Exit} {Q : AV → List AO → Prop} (he : e = .normal ∨ e = .ret) (hcl : ClM M) (hn : n ≤ M.length) (hrs : resA E (M ++ J) T res = some rs) (hr : packA rs = r) (hs : scal r = true) (hq : Q r M) :
    Fin E n res Q e T (M ++ J) := left he hcl hn hrs (by rw [hr]; exact .scal hs) hq
theorem getD_get {xs : List AV} {i : Nat} (h : i < xs.length) : xs.getD i .any = xs[i] := by simp [List.getD_eq_getElem?_getD, List.getElem?_eq_getElem h]

/-- for i := range n, as it is translated. -/
theorem AW.range {E : Env} {n sz : Nat} {e b r0 r1 : Nat} {cI cN cC cS : Tmp} {body : Code} {t0 t1 t2 ta tb tc td : TypeId} {p0 p1 p2 : String} {a0 a1 a2 : Array Edge} {T : Tm} {M : List AO} {Q : Exit → Tm → List AO → Prop} (len : Nat) (I : Nat → Tm → List AO → Prop)
    (hlen : len ≤ 9223372036854775807) (hI : T cI = .int .i64 0) (hN : T cN = .int .i64 len) (hs : cC < sz ∧ cS < sz ∧ cI < sz) (hd : cC ≠ cI ∧ cC ≠ cN ∧ cS ≠ cI ∧ cS ≠ cN ∧ cI ≠ cN) (h0 : I 0 T M)
    (stable : ∀ i T M r, I i T M → I i (updA T cC r) M ∧ I i (updA T cS r) M ∧ I i (updA T cI r) M)
    (round : ∀ i T M, i < len → I i T M → T cI = .int .i64 i → T cN = .int .i64 len → AW E n sz (.block b body) T M (thenA (fun T' M' => I (i + 1) T' M' ∧ T' cI = .int .i64 i ∧ T' cN = .int .i64 len) (inBlockA e Q)))
    (fin : ∀ T M, I len T M → Q .normal T M) :
    AW E n sz (.block e (.loop (.seq (.region r0 #[⟨some cC, .binOp .lss ta (.tmp cI) (.tmp cN) tb, t0, p0, a0, none⟩] false) (.seq (.cond (.tmp cC) .skip (.exit e)) (.seq (.block b body)
      (.region r1 #[⟨some cS, .binOp .add tc (.tmp cI) (.const (.int .i64 1)) td, t1, p1, a1, none⟩, ⟨some cI, .move (.tmp cS), t2, p2, a2, none⟩] false)))))) T M Q := by
  obtain ⟨s1, s2, s3⟩ := hs
  obtain ⟨d1, d2, d3, d4, d5⟩ := hd
  refine AW.block (AW.loop (fun d T M => ∃ i, i + d = len ∧ I i T M ∧ T cI = .int .i64 i ∧ T cN = .int .i64 len) len ⟨0, by omega, h0, hI, hN⟩ ?_)
  rintro d T M ⟨i, hi, hinv, hI, hN⟩
  refine AW.seq (AW.ops ?_)
  simp (decide := true) only [ax, hold_eq, contA_eq, atA_eq, hI, hN, s1]
  have inv1 : I i (updA T cC (.bool (decide ((i : Int) < (len : Int))))) M := (stable i T M _ hinv).1
  have hI1 : updA T cC (.bool (decide ((i : Int) < (len : Int)))) cI = .int .i64 i := by simp [updA, d1.symm, hI]
  have hN1 : updA T cC (.bool (decide ((i : Int) < (len : Int)))) cN = .int .i64 len := by simp [updA, d2.symm, hN]
  refine AW.seq (AW.cond (decide ((i : Int) < (len : Int))) (by simp [ev, updA]) ?_ ?_)
  · intro hlt
    have hlt : i < len := by simpa using hlt
    refine AW.skip ?_
    refine AW.seq ?_
    refine (round i _ M hlt inv1 hI1 hN1).mono ?_
    intro e' T' M' hq
    cases e' with
    | normal =>
      obtain ⟨hinv', hI', hN'⟩ := hq
      refine AW.ops ?_
      have hw : IntKind.i64.wrap ((i : Int) + 1) = ((i + 1 : Nat) : Int) := by rw [wrap_in (by omega) (by omega)]; omega
      simp (decide := true) only [ax, hold_eq, contA_eq, atA_eq, hI', s2, s3, hw]
      refine ⟨d - 1, by omega, i + 1, by omega, (stable _ _ _ _ (stable _ _ _ _ hinv').2.1).2.2, ?_, ?_⟩
      · simp [updA]
      · simp [updA, d4.symm, d5.symm, hN']
    | exit j => exact hq
    | goto l => exact hq
    | ret => exact hq
    | panic ch => exact hq
    | outgrown => exact hq
  · intro hge
    have hge : ¬ i < len := by simpa using hge
    have : i = len := by omega
    subst this
    refine AW.exit ?_
    simp (decide := true) only [ax, hold_eq, contA_eq, atA_eq]
    exact fin _ M inv1
end Go.Ax
