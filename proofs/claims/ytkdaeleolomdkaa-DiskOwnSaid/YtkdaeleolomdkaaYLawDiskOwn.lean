/- What the print's words and the walks are, as far as this claim names them. -/
import Derived.Test.YtkdaeleolomdkaaRows
import Derived.Test.YtkdaeleolomdkaaYPureDiskOwn
import Derived.Test.YtkdaeleolomdkaaYD41
import Derived.Test.YtkdaeleolomdkaaYOpen
import Derived.WalkKit
import Derived.ProofKit
import Derived.OpenShut
import Derived.ShutString
import Derived.ChangeOld
import Derived.Below
import Derived.SizedLaws
import Derived.JoinedCond
import Derived.Lib.SmallJoins
namespace Go.Proofs.Ytkdaeleolomdkaa.diskOwn
open Go.ChangeShapes Go.WideShapes Go.ChangeAt Go.RowKit
open Go.ChangeMaps (open_string shut_string)
set_option linter.unusedVariables false
set_option linter.unusedSimpArgs false
theorem own : ownKnob Try.prog.godebug = none := by kernel_rfl
theorem laidOut : laidOutB Try.prog = true := by kernel_rfl
set_option maxRecDepth 100000 in
theorem contract (H : Type) (enc : TypeId × Value → H) (W : World) (base : Nat) (args : Array Value) (ds gs : List (DataW H)) (before : List MemPlace)
  (hval0 : ∀ (j : Nat) t v, Try.f11.params[j]? = some t → args[j]? = some v → Value.okWide Try.prog W .any base t v)
  (hW : DataW.Whole enc Try.prog Try.f11.params.toList Rows.diskOwnSpec.vars false W args.toList ds gs before)
  (hsz0 : (DataW.weightsEach Try.prog (Try.f11.params.toList ++ Rows.diskOwnSpec.plain.varTypes Try.prog) (ds ++ gs)).all (· ≤ reachBytes) = true) :
  Calls Try.prog 11 args W fun e W' => ∃ v, e = .returned v ∧ Rows.diskOwnSpec.post enc Try.prog Try.f11 false true false false W args v W' := by
 have hW' := hW
 obtain ⟨p, q, hA0, hV, rfl, hfz, hnd⟩ := hW
 have hA : DataW.TrodAll enc Try.prog W 0 (fun _ => true) true Try.f11.params.toList args.toList ds p := hA0
 have hval := hval0
 rw [Try.params11] at hA hval hsz0
 obtain ⟨v0, vs0, d0, ds0, p0, q0, hargs, rfl, rfl, h0, r0⟩ := trodAll_cons hA
 obtain ⟨v1, vs1, d1, ds1, p1, q1, rfl, rfl, rfl, h1, r1⟩ := trodAll_cons r0
 obtain ⟨rfl, rfl, rfl⟩ := trodAll_nil r1
 obtain rfl : args = #[v0, v1] := by cases args; simp_all
 obtain ⟨rfl, rfl⟩ := trodVars_none hV
 have hall : ∀ z ∈ DataW.weightsEach Try.prog [55, 57] [d0, d1], z ≤ reachBytes := fun z hz => of_decide_eq_true (List.all_eq_true.1 hsz0 z hz)
 have hw0 : ∀ z ∈ DataW.weights Try.prog 55 d0, z ≤ reachBytes := fun z hz => hall z (List.mem_append_left _ hz)
 have hw1 : ∀ z ∈ DataW.weights Try.prog 57 d1, z ≤ reachBytes := fun z hz => hall z (List.mem_append_right _ (List.mem_append_left _ hz))
 clear hall hsz0
 clear hA0 hval0
 have k0 := h0
 have lt0 : ∀ x ∈ p0, x.block < W.heap.size := by obtain ⟨m, hm⟩ := k0; exact DataW.trod_lt m _ _ _ hm
 obtain ⟨cs, rfl, hsz0⟩ := okWide_struct Try.underlying55 (hval 0 55 v0 rfl rfl)
 obtain ⟨mm, hm⟩ := h0
 obtain ⟨⟨l0_0, l0_1⟩, ⟨u0, u0', ez0, ⟨A0_0, c0_0, rfl, hc0_0, hr0_0⟩, ⟨A0_1, c0_1, rfl, hc0_1, hr0_1⟩⟩, wf0, fit0, bk0⟩ := (Open.struct Try.underlying55 (by kernel_rfl) (Open.cons (Open.slice Try.underlying52 (by kernel_rfl) (Open.slice Try.underlying22 (by kernel_rfl) (Open.int (n := mm + 1) Try.underlying5))) rfl (by kernel_rfl) (Open.one (Open.slice Try.underlying53 (by kernel_rfl) (Open.iso (Open.struct Try.underlying57 (by kernel_rfl) (Open.cons (Open.bool (n := mm + 1) Try.underlying4) rfl (by kernel_rfl) (Open.cons (Open.int (n := mm + 1) Try.underlying3) rfl (by kernel_rfl) (Open.one (Open.slice Try.underlying22 (by kernel_rfl) (Open.int (n := mm) Try.underlying5)) rfl (by kernel_rfl))))) (fun x : D.S57 => (x.f0, x.f1, x.f2)) (fun p => ⟨p.1, p.2.1, p.2.2⟩) (fun _ => rfl))) rfl (by kernel_rfl)))) H enc W 0 (fun _ => true) true mm (by omega) _ _ _ hm
 obtain rfl : cs = #[.slice A0_0 l0_0.length c0_0, .slice A0_1 l0_1.length c0_1] := by cases cs; simp_all [Value.cells]
 clear hm hsz0 ez0
 have k1 := h1
 have lt1 : ∀ x ∈ p1, x.block < W.heap.size := by obtain ⟨m, hm⟩ := k1; exact DataW.trod_lt m _ _ _ hm
 obtain ⟨cs, rfl, hsz1⟩ := okWide_struct Try.underlying57 (hval 1 57 v1 rfl rfl)
 obtain ⟨mm, hm⟩ := h1
 obtain ⟨⟨a1_0, a1_1, l1_2⟩, ⟨u0, u0', ez0, rfl, ⟨u1, u1', ez1, rfl, ⟨A1_2, c1_2, rfl, hc1_2, hr1_2⟩⟩⟩, wf1, fit1, bk1⟩ := (Open.struct Try.underlying57 (by kernel_rfl) (Open.cons (Open.bool (n := mm + 1) Try.underlying4) rfl (by kernel_rfl) (Open.cons (Open.int (n := mm + 1) Try.underlying3) rfl (by kernel_rfl) (Open.one (Open.slice Try.underlying22 (by kernel_rfl) (Open.int (n := mm) Try.underlying5)) rfl (by kernel_rfl))))) H enc W 0 (fun _ => true) true mm (by omega) _ _ _ hm
 obtain rfl : cs = #[.bool a1_0, .int .i64 a1_1, .slice A1_2 l1_2.length c1_2] := by cases cs; simp_all [Value.cells]
 clear hm hsz1 ez0 ez1
 have fw0 := fit0 hw0
 have fw1 := fit1 hw1
 have pure_ := PureOwn.DiskOwn l0_0 l0_1 a1_0 a1_1 l1_2 ⟨by have h_ : l0_0.length * Try.prog.bytesOf 22 ≤ reachBytes := fw0.1.1; rw [show Try.prog.bytesOf 22 = 24 from by kernel_rfl] at h_; unfold reachBytes at h_; omega, fun b hb => by have h_ : b.length * Try.prog.bytesOf 5 ≤ reachBytes := (fw0.1.2 b hb).1; rw [show Try.prog.bytesOf 5 = 1 from by kernel_rfl] at h_; unfold reachBytes at h_; omega, by have h_ : l0_1.length * Try.prog.bytesOf 57 ≤ reachBytes := fw0.2.1; rw [show Try.prog.bytesOf 57 = 40 from by kernel_rfl] at h_; unfold reachBytes at h_; omega, fun x hx => by have h_ : x.f2.length * Try.prog.bytesOf 5 ≤ reachBytes := (fw0.2.2 x hx).2.2.1; rw [show Try.prog.bytesOf 5 = 1 from by kernel_rfl] at h_; unfold reachBytes at h_; omega⟩ (by have h_ : l1_2.length * Try.prog.bytesOf 5 ≤ reachBytes := fw1.2.2.1; rw [show Try.prog.bytesOf 5 = 1 from by kernel_rfl] at h_; unfold reachBytes at h_; omega)
 obtain ⟨kk, pure_⟩ := pure_
 refine (D.fanlightlaw05_DiskOwn.calls kk A0_0 c0_0 l0_0 A0_1 c0_1 l0_1 a1_0 a1_1 A1_2 c1_2 l1_2 true W hr0_0 hc0_0 hr0_1 hc0_1 hr1_2 hc1_2 pure_).mono fun e W' ⟨he, bel⟩ => ?_
 subst he
 exact ⟨_, rfl, _, _, _, [], _, [], hW', trodAll_mk1 (shut_bool Try.underlying4 _), (trodAll_cons_mk (Below.trod laidOut (by kernel_rfl) (of_decide_eq_true (by kernel_rfl)) k0 bel lt0) (trodAll_cons_mk (Below.trod laidOut (by kernel_rfl) (of_decide_eq_true (by kernel_rfl)) k1 bel lt1) trodAll_mk0)), rfl, bel.frame _, fun h => by cases h⟩
set_option maxRecDepth 100000 in
theorem lifted (os : Os) (started : os.Started) (H : Type) (enc : TypeId × Value → H) :
  ReturnsInHanded {} Try.checked os 11 .any (Rows.diskOwnSpec.pre6 enc Try.prog Try.f11 Rows.diskOwnRow.domain false) (Rows.diskOwnSpec.post enc Try.prog Try.f11 false true false false) := by
 refine returnsInHanded_of_change_sized (C := Try.checked) own started (by kernel_rfl) Try.func11
  (ChangeSpec.witness6 (enc := enc) (C := Try.checked) false ⟨#[], #[.agg #[.slice none 0 0, .slice none 0 0], .agg #[.bool false, .int .i64 0, .slice none 0 0]], []⟩ 8 (by kernel_rfl) (by kernel_rfl) (by kernel_rfl) (by kernel_rfl)) ?_
 intro W base args ds gs before hval hW hcnd hsz _
 exact contract H enc W base args ds gs before hval hW hsz
theorem proved : Rows.DiskOwnSaid :=
 OpenClaim.holds_of_wide 11 Try.f11 rfl rfl rfl rfl rfl rfl rfl ⟨rfl, rfl, rfl, rfl, rfl⟩ rfl rfl rfl rfl rfl (by kernel_rfl) Try.func11 (by kernel_rfl)
  (of_decide_eq_true (by kernel_rfl)) (by unfold Func.isWrapper; first | (rw [if_pos (by decide +kernel)]; kernel_rfl) | (rw [if_neg (by decide +kernel)]; exact ⟨rfl, rfl⟩))
  (fun os started H enc _ => lifted os started H enc)
#print axioms proved
end Go.Proofs.Ytkdaeleolomdkaa.diskOwn
namespace Go.Proofs.Ytkdaeleolomdkaa
theorem diskOwn_holds : Rows.DiskOwnSaid := diskOwn.proved
end Go.Proofs.Ytkdaeleolomdkaa
