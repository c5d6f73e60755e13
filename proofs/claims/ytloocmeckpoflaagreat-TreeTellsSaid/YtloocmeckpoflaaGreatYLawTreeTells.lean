/- What the print's words and the walks are, as far as this claim names them. -/
import Derived.Test.YtloocmeckpoflaaGreatRows
import Derived.Test.YtloocmeckpoflaaGreatYPureTreeTells
import Derived.Test.YtloocmeckpoflaaGreatYD33
import Derived.Test.YtloocmeckpoflaaGreatYOpen
import Derived.Test.YtloocmeckpoflaaGreatYOpenT
import Derived.WalkKit
import Derived.ProofKit
import Derived.OpenShut
import Derived.ShutString
import Derived.ChangeOld
import Derived.Below
import Derived.SizedLaws
import Derived.JoinedCond
import Derived.Lib.SmallJoins
namespace Go.Proofs.YtloocmeckpoflaaGreat.treeTells
open Go.ChangeShapes Go.WideShapes Go.ChangeAt Go.RowKit
open Go.ChangeMaps (open_string shut_string)
set_option linter.unusedVariables false
set_option linter.unusedSimpArgs false
theorem own : ownKnob Tryz.prog.godebug = none := by kernel_rfl
theorem laidOut : laidOutB Tryz.prog = true := by kernel_rfl
set_option maxRecDepth 100000 in
theorem contract (H : Type) (enc : TypeId × Value → H) (W : World) (base : Nat) (args : Array Value) (ds gs : List (DataW H)) (before : List MemPlace)
  (hval0 : ∀ (j : Nat) t v, Tryz.f3.params[j]? = some t → args[j]? = some v → Value.okWide Tryz.prog W .any base t v)
  (hW : DataW.Whole enc Tryz.prog Tryz.f3.params.toList Rows.treeTellsSpec.vars false W args.toList ds gs before)
  (hsz0 : (DataW.weightsEach Tryz.prog (Tryz.f3.params.toList ++ Rows.treeTellsSpec.plain.varTypes Tryz.prog) (ds ++ gs)).all (· ≤ reachBytes) = true) :
  Calls Tryz.prog 3 args W fun e W' => ∃ v, e = .returned v ∧ Rows.treeTellsSpec.post enc Tryz.prog Tryz.f3 false true false false W args v W' := by
 have hW' := hW
 obtain ⟨p, q, hA0, hV, rfl, hfz, hnd⟩ := hW
 have hA : DataW.TrodAll enc Tryz.prog W 0 (fun _ => true) true Tryz.f3.params.toList args.toList ds p := hA0
 have hval := hval0
 rw [Tryz.params3] at hA hval hsz0
 obtain ⟨v0, vs0, d0, ds0, p0, q0, hargs, rfl, rfl, h0, r0⟩ := trodAll_cons hA
 obtain ⟨rfl, rfl, rfl⟩ := trodAll_nil r0
 obtain rfl : args = #[v0] := by cases args; simp_all
 obtain ⟨rfl, rfl⟩ := trodVars_none hV
 have hall : ∀ z ∈ DataW.weightsEach Tryz.prog [25] [d0], z ≤ reachBytes := fun z hz => of_decide_eq_true (List.all_eq_true.1 hsz0 z hz)
 have hw0 : ∀ z ∈ DataW.weights Tryz.prog 25 d0, z ≤ reachBytes := fun z hz => hall z (List.mem_append_left _ hz)
 clear hall hsz0
 clear hA0 hval0
 have k0 := h0
 have lt0 : ∀ x ∈ p0, x.block < W.heap.size := by obtain ⟨m, hm⟩ := k0; exact DataW.trod_lt m _ _ _ hm
 obtain ⟨cs, rfl, hsz0⟩ := okWide_struct Tryz.underlying25 (hval 0 25 v0 rfl rfl)
 obtain ⟨mm, hm⟩ := h0
 obtain ⟨⟨a0_0, a0_1, a0_2, l0_3, l0_4⟩, ⟨u0, u0', ez0, rfl, ⟨u1, u1', ez1, rfl, ⟨u2, u2', ez2, rfl, ⟨u3, u3', ez3, ⟨A0_3, c0_3, rfl, hc0_3, hr0_3⟩, ⟨A0_4, c0_4, rfl, hc0_4, hr0_4⟩⟩⟩⟩⟩, wf0, fit0, bk0⟩ := (Open.struct Tryz.underlying25 (by kernel_rfl) (Open.cons (Open.string (n := mm + 1) Tryz.underlying9) rfl (by kernel_rfl) (Open.cons (Open.string (n := mm + 1) Tryz.underlying9) rfl (by kernel_rfl) (Open.cons (Open.string (n := mm + 1) Tryz.underlying9) rfl (by kernel_rfl) (Open.cons (Open.slice Tryz.underlying22 (by kernel_rfl) (OpenT.attr (n := mm))) rfl (by kernel_rfl) (Open.one (Open.slice Tryz.underlying23 (by kernel_rfl) (OpenT.tree (n := mm))) rfl (by kernel_rfl))))))) H enc W 0 (fun _ => true) true mm (by omega) _ _ _ hm
 obtain rfl : cs = #[.string a0_0, .string a0_1, .string a0_2, .slice A0_3 l0_3.length c0_3, .slice A0_4 l0_4.length c0_4] := by cases cs; simp_all [Value.cells]
 clear hm hsz0 ez0 ez1 ez2 ez3
 have fw0 := fit0 hw0
 have pure_ := PureTells.TreeTells ⟨a0_0, a0_1, a0_2, l0_3, l0_4⟩ (OpenT.okL_all _ wf0.2.2.2.2) (OpenT.big_of fw0.2.2.2.1.1 fw0.2.2.2.2.1 fw0.2.2.2.2.2)
 obtain ⟨kk, pure_⟩ := pure_
 refine (D.fanlightlaw09_TreeTells.calls kk a0_0 a0_1 a0_2 A0_3 c0_3 l0_3 A0_4 c0_4 l0_4 true W hr0_3 hc0_3 hr0_4 hc0_4 pure_ rfl TreeEv.alive_det).mono fun e W' ⟨he, bel⟩ => ?_
 subst he
 exact ⟨_, rfl, _, _, _, [], _, [], hW', trodAll_mk1 (shut_bool Tryz.underlying4 _), (trodAll_cons_mk (Below.trod laidOut (by kernel_rfl) (of_decide_eq_true (by kernel_rfl)) k0 bel lt0) trodAll_mk0), rfl, bel.frame _, fun h => by cases h⟩
set_option maxRecDepth 100000 in
theorem lifted (os : Os) (started : os.Started) (H : Type) (enc : TypeId × Value → H) :
  ReturnsInHanded {} Tryz.checked os 3 .any (Rows.treeTellsSpec.pre6 enc Tryz.prog Tryz.f3 Rows.treeTellsRow.domain false) (Rows.treeTellsSpec.post enc Tryz.prog Tryz.f3 false true false false) := by
 refine returnsInHanded_of_change_sized (C := Tryz.checked) own started (by kernel_rfl) Tryz.func3
  (ChangeSpec.witness6 (enc := enc) (C := Tryz.checked) false ⟨#[], #[.agg #[.string .empty, .string .empty, .string .empty, .slice none 0 0, .slice none 0 0]], []⟩ 8 (by kernel_rfl) (by kernel_rfl) (by kernel_rfl) (by kernel_rfl)) ?_
 intro W base args ds gs before hval hW hcnd hsz _
 exact contract H enc W base args ds gs before hval hW hsz
theorem proved : Rows.TreeTellsSaid :=
 OpenClaim.holds_of_wide 3 Tryz.f3 rfl rfl rfl rfl rfl rfl rfl ⟨rfl, rfl, rfl, rfl, rfl⟩ rfl rfl rfl rfl rfl (by kernel_rfl) Tryz.func3 (by kernel_rfl)
  (of_decide_eq_true (by kernel_rfl)) (by unfold Func.isWrapper; first | (rw [if_pos (by decide +kernel)]; kernel_rfl) | (rw [if_neg (by decide +kernel)]; exact ⟨rfl, rfl⟩))
  (fun os started H enc _ => lifted os started H enc)
#print axioms proved
end Go.Proofs.YtloocmeckpoflaaGreat.treeTells
namespace Go.Proofs.YtloocmeckpoflaaGreat
theorem treeTells_holds : Rows.TreeTellsSaid := treeTells.proved
end Go.Proofs.YtloocmeckpoflaaGreat
