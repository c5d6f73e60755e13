/- What the print's words and the walks are, as far as this claim names them. -/
import Derived.Test.YtloocmeckpoflaaGreatRows
import Derived.Test.YtloocmeckpoflaaGreatYPureTreeSame
import Derived.Test.YtloocmeckpoflaaGreatYD27
import Derived.Test.YtloocmeckpoflaaGreatYOpen
import Derived.Test.YtloocmeckpoflaaGreatYOpenT
import Derived.WalkKit
import Derived.ProofKit
import Derived.OpenShut
import Derived.ShutString
import Derived.ChangeOld
import Derived.Below
import Derived.SizedLaws
import Derived.JoinedCond
import Derived.Lib.SmallJoins
namespace Go.Proofs.YtloocmeckpoflaaGreat.treeSame
open Go.ChangeShapes Go.WideShapes Go.ChangeAt Go.RowKit
open Go.ChangeMaps (open_string shut_string)
set_option linter.unusedVariables false
set_option linter.unusedSimpArgs false
theorem own : ownKnob Tryz.prog.godebug = none := by kernel_rfl
theorem laidOut : laidOutB Tryz.prog = true := by kernel_rfl
set_option maxRecDepth 100000 in
theorem contract (H : Type) (enc : TypeId × Value → H) (W : World) (base : Nat) (args : Array Value) (ds gs : List (DataW H)) (before : List MemPlace)
  (hval0 : ∀ (j : Nat) t v, Tryz.f4.params[j]? = some t → args[j]? = some v → Value.okWide Tryz.prog W .any base t v)
  (hW : DataW.Whole enc Tryz.prog Tryz.f4.params.toList Rows.treeSameSpec.vars false W args.toList ds gs before)
  (hsz0 : (DataW.weightsEach Tryz.prog (Tryz.f4.params.toList ++ Rows.treeSameSpec.plain.varTypes Tryz.prog) (ds ++ gs)).all (· ≤ reachBytes) = true) :
  Calls Tryz.prog 4 args W fun e W' => ∃ v, e = .returned v ∧ Rows.treeSameSpec.post enc Tryz.prog Tryz.f4 false true false false W args v W' := by
 have hW' := hW
 obtain ⟨p, q, hA0, hV, rfl, hfz, hnd⟩ := hW
 have hA : DataW.TrodAll enc Tryz.prog W 0 (fun _ => true) true Tryz.f4.params.toList args.toList ds p := hA0
 have hval := hval0
 rw [Tryz.params4] at hA hval hsz0
 obtain ⟨v0, vs0, d0, ds0, p0, q0, hargs, rfl, rfl, h0, r0⟩ := trodAll_cons hA
 obtain ⟨v1, vs1, d1, ds1, p1, q1, rfl, rfl, rfl, h1, r1⟩ := trodAll_cons r0
 obtain ⟨rfl, rfl, rfl⟩ := trodAll_nil r1
 obtain rfl : args = #[v0, v1] := by cases args; simp_all
 obtain ⟨rfl, rfl⟩ := trodVars_none hV
 have hall : ∀ z ∈ DataW.weightsEach Tryz.prog [25, 25] [d0, d1], z ≤ reachBytes := fun z hz => of_decide_eq_true (List.all_eq_true.1 hsz0 z hz)
 have hw0 : ∀ z ∈ DataW.weights Tryz.prog 25 d0, z ≤ reachBytes := fun z hz => hall z (List.mem_append_left _ hz)
 have hw1 : ∀ z ∈ DataW.weights Tryz.prog 25 d1, z ≤ reachBytes := fun z hz => hall z (List.mem_append_right _ (List.mem_append_left _ hz))
 clear hall hsz0
 clear hA0 hval0
 have k0 := h0
 have lt0 : ∀ x ∈ p0, x.block < W.heap.size := by obtain ⟨m, hm⟩ := k0; exact DataW.trod_lt m _ _ _ hm
 obtain ⟨cs, rfl, hsz0⟩ := okWide_struct Tryz.underlying25 (hval 0 25 v0 rfl rfl)
 obtain ⟨mm, hm⟩ := h0
 obtain ⟨⟨a0_0, a0_1, a0_2, l0_3, l0_4⟩, ⟨u0, u0', ez0, rfl, ⟨u1, u1', ez1, rfl, ⟨u2, u2', ez2, rfl, ⟨u3, u3', ez3, ⟨A0_3, c0_3, rfl, hc0_3, hr0_3⟩, ⟨A0_4, c0_4, rfl, hc0_4, hr0_4⟩⟩⟩⟩⟩, wf0, fit0, bk0⟩ := (Open.struct Tryz.underlying25 (by kernel_rfl) (Open.cons (Open.string (n := mm + 1) Tryz.underlying9) rfl (by kernel_rfl) (Open.cons (Open.string (n := mm + 1) Tryz.underlying9) rfl (by kernel_rfl) (Open.cons (Open.string (n := mm + 1) Tryz.underlying9) rfl (by kernel_rfl) (Open.cons (Open.slice Tryz.underlying22 (by kernel_rfl) (OpenT.attr (n := mm))) rfl (by kernel_rfl) (Open.one (Open.slice Tryz.underlying23 (by kernel_rfl) (OpenT.tree (n := mm))) rfl (by kernel_rfl))))))) H enc W 0 (fun _ => true) true mm (by omega) _ _ _ hm
 obtain rfl : cs = #[.string a0_0, .string a0_1, .string a0_2, .slice A0_3 l0_3.length c0_3, .slice A0_4 l0_4.length c0_4] := by cases cs; simp_all [Value.cells]
 clear hm hsz0 ez0 ez1 ez2 ez3
 have k1 := h1
 have lt1 : ∀ x ∈ p1, x.block < W.heap.size := by obtain ⟨m, hm⟩ := k1; exact DataW.trod_lt m _ _ _ hm
 obtain ⟨cs, rfl, hsz1⟩ := okWide_struct Tryz.underlying25 (hval 1 25 v1 rfl rfl)
 obtain ⟨mm, hm⟩ := h1
 obtain ⟨⟨a1_0, a1_1, a1_2, l1_3, l1_4⟩, ⟨u0, u0', ez0, rfl, ⟨u1, u1', ez1, rfl, ⟨u2, u2', ez2, rfl, ⟨u3, u3', ez3, ⟨A1_3, c1_3, rfl, hc1_3, hr1_3⟩, ⟨A1_4, c1_4, rfl, hc1_4, hr1_4⟩⟩⟩⟩⟩, wf1, fit1, bk1⟩ := (Open.struct Tryz.underlying25 (by kernel_rfl) (Open.cons (Open.string (n := mm + 1) Tryz.underlying9) rfl (by kernel_rfl) (Open.cons (Open.string (n := mm + 1) Tryz.underlying9) rfl (by kernel_rfl) (Open.cons (Open.string (n := mm + 1) Tryz.underlying9) rfl (by kernel_rfl) (Open.cons (Open.slice Tryz.underlying22 (by kernel_rfl) (OpenT.attr (n := mm))) rfl (by kernel_rfl) (Open.one (Open.slice Tryz.underlying23 (by kernel_rfl) (OpenT.tree (n := mm))) rfl (by kernel_rfl))))))) H enc W 0 (fun _ => true) true mm (by omega) _ _ _ hm
 obtain rfl : cs = #[.string a1_0, .string a1_1, .string a1_2, .slice A1_3 l1_3.length c1_3, .slice A1_4 l1_4.length c1_4] := by cases cs; simp_all [Value.cells]
 clear hm hsz1 ez0 ez1 ez2 ez3
 have fw0 := fit0 hw0
 have fw1 := fit1 hw1
 have pure_ := PureSame.TreeSame ⟨a0_0, a0_1, a0_2, l0_3, l0_4⟩ ⟨a1_0, a1_1, a1_2, l1_3, l1_4⟩ (OpenT.okL_all _ wf0.2.2.2.2) (OpenT.okL_all _ wf1.2.2.2.2) (OpenT.big_of fw0.2.2.2.1.1 fw0.2.2.2.2.1 fw0.2.2.2.2.2) (OpenT.big_of fw1.2.2.2.1.1 fw1.2.2.2.2.1 fw1.2.2.2.2.2)
 obtain ⟨kk, pure_⟩ := pure_
 refine (D.fanlightlaw09_TreeSame.calls kk a0_0 a0_1 a0_2 A0_3 c0_3 l0_3 A0_4 c0_4 l0_4 a1_0 a1_1 a1_2 A1_3 c1_3 l1_3 A1_4 c1_4 l1_4 true W hr0_3 hc0_3 hr0_4 hc0_4 hr1_3 hc1_3 hr1_4 hc1_4 pure_ rfl TreeEv.alive_det).mono fun e W' ⟨he, bel⟩ => ?_
 subst he
 exact ⟨_, rfl, _, _, _, [], _, [], hW', trodAll_mk1 (shut_bool Tryz.underlying4 _), (trodAll_cons_mk (Below.trod laidOut (by kernel_rfl) (of_decide_eq_true (by kernel_rfl)) k0 bel lt0) (trodAll_cons_mk (Below.trod laidOut (by kernel_rfl) (of_decide_eq_true (by kernel_rfl)) k1 bel lt1) trodAll_mk0)), rfl, bel.frame _, fun h => by cases h⟩
set_option maxRecDepth 100000 in
theorem lifted (os : Os) (started : os.Started) (H : Type) (enc : TypeId × Value → H) :
  ReturnsInHanded {} Tryz.checked os 4 .any (Rows.treeSameSpec.pre6 enc Tryz.prog Tryz.f4 Rows.treeSameRow.domain false) (Rows.treeSameSpec.post enc Tryz.prog Tryz.f4 false true false false) := by
 refine returnsInHanded_of_change_sized (C := Tryz.checked) own started (by kernel_rfl) Tryz.func4
  (ChangeSpec.witness6 (enc := enc) (C := Tryz.checked) false ⟨#[], #[.agg #[.string .empty, .string .empty, .string .empty, .slice none 0 0, .slice none 0 0], .agg #[.string .empty, .string .empty, .string .empty, .slice none 0 0, .slice none 0 0]], []⟩ 8 (by kernel_rfl) (by kernel_rfl) (by kernel_rfl) (by kernel_rfl)) ?_
 intro W base args ds gs before hval hW hcnd hsz _
 exact contract H enc W base args ds gs before hval hW hsz
theorem proved : Rows.TreeSameSaid :=
 OpenClaim.holds_of_wide 4 Tryz.f4 rfl rfl rfl rfl rfl rfl rfl ⟨rfl, rfl, rfl, rfl, rfl⟩ rfl rfl rfl rfl rfl (by kernel_rfl) Tryz.func4 (by kernel_rfl)
  (of_decide_eq_true (by kernel_rfl)) (by unfold Func.isWrapper; first | (rw [if_pos (by decide +kernel)]; kernel_rfl) | (rw [if_neg (by decide +kernel)]; exact ⟨rfl, rfl⟩))
  (fun os started H enc _ => lifted os started H enc)
#print axioms proved
end Go.Proofs.YtloocmeckpoflaaGreat.treeSame
namespace Go.Proofs.YtloocmeckpoflaaGreat
theorem treeSame_holds : Rows.TreeSameSaid := treeSame.proved
end Go.Proofs.YtloocmeckpoflaaGreat
