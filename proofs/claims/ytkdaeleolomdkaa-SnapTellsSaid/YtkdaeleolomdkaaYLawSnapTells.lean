/- What the print's words and the walks are, as far as this claim names them. -/
import Derived.Test.YtkdaeleolomdkaaRows
import Derived.Test.YtkdaeleolomdkaaYPureSnapTellsV
import Derived.Test.YtkdaeleolomdkaaYV21
import Derived.Test.YtkdaeleolomdkaaYOpen
import Derived.WalkKit
import Derived.ProofKit
import Derived.OpenShut
import Derived.ShutString
import Derived.ChangeOld
import Derived.Below
import Derived.SizedLaws
import Derived.JoinedCond
import Derived.Lib.SmallJoins
namespace Go.Proofs.Ytkdaeleolomdkaa.snapTells
open Go.ChangeShapes Go.WideShapes Go.ChangeAt Go.RowKit
open Go.ChangeMaps (open_string shut_string)
set_option linter.unusedVariables false
set_option linter.unusedSimpArgs false
theorem own : ownKnob Try.prog.godebug = none := by kernel_rfl
theorem laidOut : laidOutB Try.prog = true := by kernel_rfl
set_option maxRecDepth 100000 in
theorem contract (H : Type) (enc : TypeId × Value → H) (W : World) (base : Nat) (args : Array Value) (ds gs : List (DataW H)) (before : List MemPlace)
    (hval0 : ∀ (j : Nat) t v, Try.f3.params[j]? = some t → args[j]? = some v → Value.okWide Try.prog W .any base t v)
    (hW : DataW.Whole enc Try.prog Try.f3.params.toList Rows.snapTellsSpec.vars false W args.toList ds gs before)
    (hsz0 : (DataW.weightsEach Try.prog (Try.f3.params.toList ++ Rows.snapTellsSpec.plain.varTypes Try.prog) (ds ++ gs)).all (· ≤ reachBytes) = true) :
    Calls Try.prog 3 args W fun e W' => ∃ v, e = .returned v ∧ Rows.snapTellsSpec.post enc Try.prog Try.f3 false true false false W args v W' := by
  have hW' := hW
  obtain ⟨p, q, hA0, hV, rfl, hfz, hnd⟩ := hW
  have hA : DataW.TrodAll enc Try.prog W 0 (fun _ => true) true Try.f3.params.toList args.toList ds p := hA0
  have hval := hval0
  rw [Try.params3] at hA hval hsz0
  obtain ⟨v0, vs0, d0, ds0, p0, q0, hargs, rfl, rfl, h0, r0⟩ := trodAll_cons hA
  obtain ⟨v1, vs1, d1, ds1, p1, q1, rfl, rfl, rfl, h1, r1⟩ := trodAll_cons r0
  obtain ⟨v2, vs2, d2, ds2, p2, q2, rfl, rfl, rfl, h2, r2⟩ := trodAll_cons r1
  obtain ⟨rfl, rfl, rfl⟩ := trodAll_nil r2
  obtain rfl : args = #[v0, v1, v2] := by cases args; simp_all
  obtain ⟨rfl, rfl⟩ := trodVars_none hV
  have hall : ∀ z ∈ DataW.weightsEach Try.prog [24, 22, 22] [d0, d1, d2], z ≤ reachBytes := fun z hz => of_decide_eq_true (List.all_eq_true.1 hsz0 z hz)
  have hw0 : ∀ z ∈ DataW.weights Try.prog 24 d0, z ≤ reachBytes := fun z hz => hall z (List.mem_append_left _ hz)
  have hw1 : ∀ z ∈ DataW.weights Try.prog 22 d1, z ≤ reachBytes := fun z hz => hall z (List.mem_append_right _ (List.mem_append_left _ hz))
  have hw2 : ∀ z ∈ DataW.weights Try.prog 22 d2, z ≤ reachBytes := fun z hz => hall z (List.mem_append_right _ (List.mem_append_right _ (List.mem_append_left _ hz)))
  clear hall hsz0
  clear hA0 hval0
  have k0 := h0
  have lt0 : ∀ x ∈ p0, x.block < W.heap.size := by obtain ⟨m, hm⟩ := k0; exact DataW.trod_lt m _ _ _ hm
  obtain ⟨cs, rfl, hsz0⟩ := okWide_struct Try.underlying24 (hval 0 24 v0 rfl rfl)
  obtain ⟨mm, hm⟩ := h0
  obtain ⟨⟨a0_0, a0_1, l0_2⟩, ⟨u0, u0', ez0, rfl, ⟨u1, u1', ez1, rfl, ⟨A0_2, c0_2, rfl, hc0_2, hr0_2⟩⟩⟩, wf0, fit0, bk0⟩ := (Open.struct Try.underlying24 (by kernel_rfl) (Open.cons (Open.int (n := mm + 1) Try.underlying3) rfl (by kernel_rfl) (Open.cons (Open.int (n := mm + 1) Try.underlying3) rfl (by kernel_rfl) (Open.one (Open.slice Try.underlying22 (by kernel_rfl) (Open.int (n := mm) Try.underlying5)) rfl (by kernel_rfl))))) H enc W 0 (fun _ => true) true mm (by omega) _ _ _ hm
  obtain rfl : cs = #[.int .i64 a0_0, .int .i64 a0_1, .slice A0_2 l0_2.length c0_2] := by cases cs; simp_all [Value.cells]
  clear hm hsz0 ez0 ez1
  have k1 := h1
  have lt1 : ∀ x ∈ p1, x.block < W.heap.size := by obtain ⟨m, hm⟩ := k1; exact DataW.trod_lt m _ _ _ hm
  obtain ⟨A1, len1, c1, rfl⟩ := okWide_slice Try.underlying22 (hval 1 22 v1 rfl rfl)
  obtain ⟨mm, hm⟩ := h1
  obtain ⟨l1, ⟨A', c', e', hc1, hr1⟩, wf1, fit1, bk1⟩ := (Open.slice Try.underlying22 (by kernel_rfl) (Open.int (n := mm) Try.underlying5)) H enc W 0 (fun _ => true) true mm (by omega) _ _ _ hm
  obtain ⟨rfl, rfl, rfl⟩ : A1 = A' ∧ len1 = l1.length ∧ c1 = c' := by simpa [Value.cells] using e'
  clear e' hm
  have k2 := h2
  have lt2 : ∀ x ∈ p2, x.block < W.heap.size := by obtain ⟨m, hm⟩ := k2; exact DataW.trod_lt m _ _ _ hm
  obtain ⟨A2, len2, c2, rfl⟩ := okWide_slice Try.underlying22 (hval 2 22 v2 rfl rfl)
  obtain ⟨mm, hm⟩ := h2
  obtain ⟨l2, ⟨A', c', e', hc2, hr2⟩, wf2, fit2, bk2⟩ := (Open.slice Try.underlying22 (by kernel_rfl) (Open.int (n := mm) Try.underlying5)) H enc W 0 (fun _ => true) true mm (by omega) _ _ _ hm
  obtain ⟨rfl, rfl, rfl⟩ : A2 = A' ∧ len2 = l2.length ∧ c2 = c' := by simpa [Value.cells] using e'
  clear e' hm
  have fw0 := fit0 hw0
  have fw1 := fit1 hw1
  have fw2 := fit2 hw2
  have pure_ := Pure.SnapTells a0_0 a0_1 l0_2 l1 l2 (fun x hx => Open.wf_u8 (wf0.2.2 x hx)) (Open.len1 fw0.2.2.1 (by kernel_rfl)) (fun x hx => Open.wf_u8 (wf1 x hx)) (Open.len1 fw1.1 (by kernel_rfl)) (fun x hx => Open.wf_u8 (wf2 x hx)) (Open.len1 fw2.1 (by kernel_rfl))
  obtain ⟨kk, pure_⟩ := pure_
  refine (V.fanlightlaw07_SnapTells.calls kk a0_0 a0_1 A0_2 c0_2 l0_2 A1 c1 l1 A2 c2 l2 true W hr0_2 hc0_2 hr1 hc1 hr2 hc2 pure_ rfl).mono fun e W' ⟨he, bel⟩ => ?_
  subst he
  exact ⟨_, rfl, _, _, _, [], _, [], hW', trodAll_mk1 (shut_bool Try.underlying4 _), (trodAll_cons_mk (Below.trod laidOut (by kernel_rfl) (of_decide_eq_true (by kernel_rfl)) k0 bel lt0) (trodAll_cons_mk (Below.trod laidOut (by kernel_rfl) (of_decide_eq_true (by kernel_rfl)) k1 bel lt1) (trodAll_cons_mk (Below.trod laidOut (by kernel_rfl) (of_decide_eq_true (by kernel_rfl)) k2 bel lt2) trodAll_mk0))), rfl, bel.frame _, fun h => by cases h⟩
set_option maxRecDepth 100000 in
theorem lifted (os : Os) (started : os.Started) (H : Type) (enc : TypeId × Value → H) :
    ReturnsInHanded {} Try.checked os 3 .any (Rows.snapTellsSpec.pre6 enc Try.prog Try.f3 Rows.snapTellsRow.domain false) (Rows.snapTellsSpec.post enc Try.prog Try.f3 false true false false) := by
  refine returnsInHanded_of_change_sized (C := Try.checked) own started (by kernel_rfl) Try.func3
    (ChangeSpec.witness6 (enc := enc) (C := Try.checked) false ⟨#[], #[.agg #[.int .i64 0, .int .i64 0, .slice none 0 0], .slice none 0 0, .slice none 0 0], []⟩ 8 (by kernel_rfl) (by kernel_rfl) (by kernel_rfl) (by kernel_rfl)) ?_
  intro W base args ds gs before hval hW hcnd hsz _
  exact contract H enc W base args ds gs before hval hW hsz
theorem proved : Rows.SnapTellsSaid :=
  OpenClaim.holds_of_wide 3 Try.f3 rfl rfl rfl rfl rfl rfl rfl ⟨rfl, rfl, rfl, rfl, rfl⟩ rfl rfl rfl rfl rfl (by kernel_rfl) Try.func3 (by kernel_rfl)
    (of_decide_eq_true (by kernel_rfl)) (by unfold Func.isWrapper; first | (rw [if_pos (by decide +kernel)]; kernel_rfl) | (rw [if_neg (by decide +kernel)]; exact ⟨rfl, rfl⟩))
    (fun os started H enc _ => lifted os started H enc)
#print axioms proved
end Go.Proofs.Ytkdaeleolomdkaa.snapTells
namespace Go.Proofs.Ytkdaeleolomdkaa
theorem snapTells_holds : Rows.SnapTellsSaid := snapTells.proved
end Go.Proofs.Ytkdaeleolomdkaa
