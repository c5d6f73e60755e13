/- What the print's words and the walks are, as far as this claim names them. -/
import Derived.Test.YtgmkgobapeencaaRows
import Derived.Test.YtgmkgobapeencaaYOpen
import Derived.WalkKit
import Derived.ProofKit
import Derived.OpenShut
import Derived.ShutString
import Derived.ChangeOld
import Derived.Below
import Derived.SizedLaws
import Derived.JoinedCond
import Derived.Lib.SmallJoins
namespace Go.Proofs.Ytgmkgobapeencaa.walCut
open Go.ChangeShapes Go.WideShapes Go.ChangeAt Go.RowKit
open Go.ChangeMaps (open_string shut_string)
set_option linter.unusedVariables false
set_option linter.unusedSimpArgs false
theorem own : ownKnob Try.prog.godebug = none := by kernel_rfl
theorem laidOut : laidOutB Try.prog = true := by kernel_rfl
set_option maxRecDepth 100000 in
theorem contract (H : Type) (enc : TypeId × Value → H) (W : World) (base : Nat) (args : Array Value) (ds gs : List (DataW H)) (before : List MemPlace)
  (hval0 : ∀ (j : Nat) t v, Try.f7.params[j]? = some t → args[j]? = some v → Value.okWide Try.prog W .any base t v)
  (hW : DataW.Whole enc Try.prog Try.f7.params.toList Rows.walCutSpec.vars false W args.toList ds gs before)
  (hsz0 : (DataW.weightsEach Try.prog (Try.f7.params.toList ++ Rows.walCutSpec.plain.varTypes Try.prog) (ds ++ gs)).all (· ≤ reachBytes) = true) :
  Calls Try.prog 7 args W fun e W' => ∃ v, e = .returned v ∧ Rows.walCutSpec.post enc Try.prog Try.f7 false true false false W args v W' := by
 have hW' := hW
 obtain ⟨p, q, hA0, hV, rfl, hfz, hnd⟩ := hW
 have hA : DataW.TrodAll enc Try.prog W 0 (fun _ => true) true Try.f7.params.toList args.toList ds p := hA0
 have hval := hval0
 rw [Try.params7] at hA hval hsz0
 obtain ⟨v0, vs0, d0, ds0, p0, q0, hargs, rfl, rfl, h0, r0⟩ := trodAll_cons hA
 obtain ⟨v1, vs1, d1, ds1, p1, q1, rfl, rfl, rfl, h1, r1⟩ := trodAll_cons r0
 obtain ⟨v2, vs2, d2, ds2, p2, q2, rfl, rfl, rfl, h2, r2⟩ := trodAll_cons r1
 obtain ⟨rfl, rfl, rfl⟩ := trodAll_nil r2
 obtain rfl : args = #[v0, v1, v2] := by cases args; simp_all
 obtain ⟨rfl, rfl⟩ := trodVars_none hV
 have hall : ∀ z ∈ DataW.weightsEach Try.prog [3, 22, 3] [d0, d1, d2], z ≤ reachBytes := fun z hz => of_decide_eq_true (List.all_eq_true.1 hsz0 z hz)
 have hw0 : ∀ z ∈ DataW.weights Try.prog 3 d0, z ≤ reachBytes := fun z hz => hall z (List.mem_append_left _ hz)
 have hw1 : ∀ z ∈ DataW.weights Try.prog 22 d1, z ≤ reachBytes := fun z hz => hall z (List.mem_append_right _ (List.mem_append_left _ hz))
 have hw2 : ∀ z ∈ DataW.weights Try.prog 3 d2, z ≤ reachBytes := fun z hz => hall z (List.mem_append_right _ (List.mem_append_right _ (List.mem_append_left _ hz)))
 clear hall hsz0
 clear hA0 hval0
 obtain ⟨a0, rfl, rfl, rfl, wf0⟩ := open_int Try.underlying3 (hval 0 3 v0 rfl rfl) h0
 have k1 := h1
 have lt1 : ∀ x ∈ p1, x.block < W.heap.size := by obtain ⟨m, hm⟩ := k1; exact DataW.trod_lt m _ _ _ hm
 obtain ⟨A1, len1, c1, rfl⟩ := okWide_slice Try.underlying22 (hval 1 22 v1 rfl rfl)
 obtain ⟨mm, hm⟩ := h1
 obtain ⟨l1, ⟨A', c', e', hc1, hr1⟩, wf1, fit1, bk1⟩ := (Open.slice Try.underlying22 (by kernel_rfl) (Open.slice Try.underlying25 (by kernel_rfl) (Open.int (n := mm) Try.underlying5))) H enc W 0 (fun _ => true) true mm (by omega) _ _ _ hm
 obtain ⟨rfl, rfl, rfl⟩ : A1 = A' ∧ len1 = l1.length ∧ c1 = c' := by simpa [Value.cells] using e'
 clear e' hm
 obtain ⟨a2, rfl, rfl, rfl, wf2⟩ := open_int Try.underlying3 (hval 2 3 v2 rfl rfl) h2
 have fw1 := fit1 hw1
 have pure_ := PureCut.WalCut a0 l1 a2 (fun s hs => fun x hx => Open.wf_u8 (wf1 s hs x hx)) (by have := fw1.1; rw [show Try.prog.bytesOf 25 = 24 from by kernel_rfl] at this; unfold reachBytes at this; omega)
 obtain ⟨kk, pure_⟩ := pure_
 refine (S.fanlightlaw06_WalCut.calls kk a0 A1 c1 l1 a2 true W hr1 hc1 pure_).mono fun e W' ⟨he, bel⟩ => ?_
 subst he
 exact ⟨_, rfl, _, _, _, [], _, [], hW', trodAll_mk1 (shut_bool Try.underlying4 _), (trodAll_cons_mk (shut_int Try.underlying3 wf0) (trodAll_cons_mk (Below.trod laidOut (by kernel_rfl) (of_decide_eq_true (by kernel_rfl)) k1 bel lt1) (trodAll_cons_mk (shut_int Try.underlying3 wf2) trodAll_mk0))), rfl, bel.frame _, fun h => by cases h⟩
set_option maxRecDepth 100000 in
theorem lifted (os : Os) (started : os.Started) (H : Type) (enc : TypeId × Value → H) :
  ReturnsInHanded {} Try.checked os 7 .any (Rows.walCutSpec.pre6 enc Try.prog Try.f7 Rows.walCutRow.domain false) (Rows.walCutSpec.post enc Try.prog Try.f7 false true false false) := by
 refine returnsInHanded_of_change_sized (C := Try.checked) own started (by kernel_rfl) Try.func7
  (ChangeSpec.witness6 (enc := enc) (C := Try.checked) false ⟨#[], #[.int .i64 0, .slice none 0 0, .int .i64 0], []⟩ 8 (by kernel_rfl) (by kernel_rfl) (by kernel_rfl) (by kernel_rfl)) ?_
 intro W base args ds gs before hval hW hcnd hsz _
 exact contract H enc W base args ds gs before hval hW hsz
theorem proved : Rows.WalCutSaid :=
 OpenClaim.holds_of_wide 7 Try.f7 rfl rfl rfl rfl rfl rfl rfl ⟨rfl, rfl, rfl, rfl, rfl⟩ rfl rfl rfl rfl rfl (by kernel_rfl) Try.func7 (by kernel_rfl)
  (of_decide_eq_true (by kernel_rfl)) (by unfold Func.isWrapper; first | (rw [if_pos (by decide +kernel)]; kernel_rfl) | (rw [if_neg (by decide +kernel)]; exact ⟨rfl, rfl⟩))
  (fun os started H enc _ => lifted os started H enc)
#print axioms proved
end Go.Proofs.Ytgmkgobapeencaa.walCut
namespace Go.Proofs.Ytgmkgobapeencaa
theorem walCut_holds : Rows.WalCutSaid := walCut.proved
end Go.Proofs.Ytgmkgobapeencaa
