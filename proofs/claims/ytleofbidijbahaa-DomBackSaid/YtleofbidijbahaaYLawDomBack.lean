/- What the print's words and the walks are, as far as this claim names them. -/
import Derived.Test.YtleofbidijbahaaRows
import Derived.Test.YtleofbidijbahaaYPureDomBack
import Derived.Test.YtleofbidijbahaaYD60
import Derived.Test.YtleofbidijbahaaYOpen
import Derived.WalkKit
import Derived.ProofKit
import Derived.OpenShut
import Derived.ShutString
import Derived.ChangeOld
import Derived.Below
import Derived.SizedLaws
import Derived.JoinedCond
import Derived.Lib.SmallJoins
namespace Go.Proofs.Ytleofbidijbahaa.domBack
open Go.ChangeShapes Go.WideShapes Go.ChangeAt Go.RowKit
open Go.ChangeMaps (open_string shut_string)
set_option linter.unusedVariables false
set_option linter.unusedSimpArgs false
theorem own : ownKnob Try.prog.godebug = none := by kernel_rfl
theorem laidOut : laidOutB Try.prog = true := by kernel_rfl
set_option maxRecDepth 100000 in
theorem contract (H : Type) (enc : TypeId × Value → H) (W : World) (base : Nat) (args : Array Value) (ds gs : List (DataW H)) (before : List MemPlace)
  (hval0 : ∀ (j : Nat) t v, Try.f6.params[j]? = some t → args[j]? = some v → Value.okWide Try.prog W .any base t v)
  (hW : DataW.Whole enc Try.prog Try.f6.params.toList Rows.domBackSpec.vars false W args.toList ds gs before)
  (hsz0 : (DataW.weightsEach Try.prog (Try.f6.params.toList ++ Rows.domBackSpec.plain.varTypes Try.prog) (ds ++ gs)).all (· ≤ reachBytes) = true) :
  Calls Try.prog 6 args W fun e W' => ∃ v, e = .returned v ∧ Rows.domBackSpec.post enc Try.prog Try.f6 false true false false W args v W' := by
 have hW' := hW
 obtain ⟨p, q, hA0, hV, rfl, hfz, hnd⟩ := hW
 have hA : DataW.TrodAll enc Try.prog W 0 (fun _ => true) true Try.f6.params.toList args.toList ds p := hA0
 have hval := hval0
 rw [Try.params6] at hA hval hsz0
 obtain ⟨v0, vs0, d0, ds0, p0, q0, hargs, rfl, rfl, h0, r0⟩ := trodAll_cons hA
 obtain ⟨v1, vs1, d1, ds1, p1, q1, rfl, rfl, rfl, h1, r1⟩ := trodAll_cons r0
 obtain ⟨v2, vs2, d2, ds2, p2, q2, rfl, rfl, rfl, h2, r2⟩ := trodAll_cons r1
 obtain ⟨v3, vs3, d3, ds3, p3, q3, rfl, rfl, rfl, h3, r3⟩ := trodAll_cons r2
 obtain ⟨rfl, rfl, rfl⟩ := trodAll_nil r3
 obtain rfl : args = #[v0, v1, v2, v3] := by cases args; simp_all
 obtain ⟨rfl, rfl⟩ := trodVars_none hV
 have hall : ∀ z ∈ DataW.weightsEach Try.prog [24, 3, 3, 3] [d0, d1, d2, d3], z ≤ reachBytes := fun z hz => of_decide_eq_true (List.all_eq_true.1 hsz0 z hz)
 have hw0 : ∀ z ∈ DataW.weights Try.prog 24 d0, z ≤ reachBytes := fun z hz => hall z (List.mem_append_left _ hz)
 have hw1 : ∀ z ∈ DataW.weights Try.prog 3 d1, z ≤ reachBytes := fun z hz => hall z (List.mem_append_right _ (List.mem_append_left _ hz))
 have hw2 : ∀ z ∈ DataW.weights Try.prog 3 d2, z ≤ reachBytes := fun z hz => hall z (List.mem_append_right _ (List.mem_append_right _ (List.mem_append_left _ hz)))
 have hw3 : ∀ z ∈ DataW.weights Try.prog 3 d3, z ≤ reachBytes := fun z hz => hall z (List.mem_append_right _ (List.mem_append_right _ (List.mem_append_right _ (List.mem_append_left _ hz))))
 clear hall hsz0
 clear hA0 hval0
 have k0 := h0
 have lt0 : ∀ x ∈ p0, x.block < W.heap.size := by obtain ⟨m, hm⟩ := k0; exact DataW.trod_lt m _ _ _ hm
 obtain ⟨cs, rfl, hsz0⟩ := okWide_struct Try.underlying24 (hval 0 24 v0 rfl rfl)
 obtain ⟨mm, hm⟩ := h0
 obtain ⟨⟨l0_0, a0_1, a0_2⟩, ⟨u0, u0', ez0, ⟨A0_0, c0_0, rfl, hc0_0, hr0_0⟩, ⟨u1, u1', ez1, rfl, rfl⟩⟩, wf0, fit0, bk0⟩ := (Open.struct Try.underlying24 (by kernel_rfl) (Open.cons (Open.slice Try.underlying22 (by kernel_rfl) (Open.iso (Open.struct Try.underlying64 (by kernel_rfl) (Open.cons (Open.int (n := mm + 1 + 1) Try.underlying3) rfl (by kernel_rfl) (Open.cons (Open.int (n := mm + 1 + 1) Try.underlying3) rfl (by kernel_rfl) (Open.cons (Open.string (n := mm + 1 + 1) Try.underlying9) rfl (by kernel_rfl) (Open.cons (Open.string (n := mm + 1 + 1) Try.underlying9) rfl (by kernel_rfl) (Open.cons (Open.string (n := mm + 1 + 1) Try.underlying9) rfl (by kernel_rfl) (Open.cons (Open.slice Try.underlying48 (by kernel_rfl) (Open.iso (Open.struct Try.underlying68 (by kernel_rfl) (Open.cons (Open.string (n := mm) Try.underlying9) rfl (by kernel_rfl) (Open.one (Open.string (n := mm) Try.underlying9) rfl (by kernel_rfl)))) (fun x : D.S68 => (x.f0, x.f1)) (fun p => ⟨p.1, p.2⟩) (fun _ => rfl))) rfl (by kernel_rfl) (Open.one (Open.slice Try.underlying61 (by kernel_rfl) (Open.int (n := mm + 1) Try.underlying3)) rfl (by kernel_rfl))))))))) (fun x : D.S64 => (x.f0, x.f1, x.f2, x.f3, x.f4, x.f5, x.f6)) (fun p => ⟨p.1, p.2.1, p.2.2.1, p.2.2.2.1, p.2.2.2.2.1, p.2.2.2.2.2.1, p.2.2.2.2.2.2⟩) (fun _ => rfl))) rfl (by kernel_rfl) (Open.cons (Open.int (n := mm + 1 + 1 + 1 + 1) Try.underlying3) rfl (by kernel_rfl) (Open.one (Open.int (n := mm + 1 + 1 + 1 + 1) Try.underlying3) rfl (by kernel_rfl))))) H enc W 0 (fun _ => true) true mm (by omega) _ _ _ hm
 obtain rfl : cs = #[.slice A0_0 l0_0.length c0_0, .int .i64 a0_1, .int .i64 a0_2] := by cases cs; simp_all [Value.cells]
 clear hm hsz0 ez0 ez1
 obtain ⟨a1, rfl, rfl, rfl, wf1⟩ := open_int Try.underlying3 (hval 1 3 v1 rfl rfl) h1
 obtain ⟨a2, rfl, rfl, rfl, wf2⟩ := open_int Try.underlying3 (hval 2 3 v2 rfl rfl) h2
 obtain ⟨a3, rfl, rfl, rfl, wf3⟩ := open_int Try.underlying3 (hval 3 3 v3 rfl rfl) h3
 have fw0 := fit0 hw0
 have pure_ := PureBack.DomBack l0_0 a0_1 a0_2 a1 a2 a3 ⟨by have h_ : l0_0.length * Try.prog.bytesOf 64 ≤ reachBytes := fw0.1.1; rw [show Try.prog.bytesOf 64 = 112 from by kernel_rfl] at h_; unfold reachBytes at h_; omega, fun x hx => by have h_ : x.f5.length * Try.prog.bytesOf 68 ≤ reachBytes := (fw0.1.2 x hx).2.2.2.2.2.1.1; rw [show Try.prog.bytesOf 68 = 32 from by kernel_rfl] at h_; unfold reachBytes at h_; omega, fun x hx => by have h_ : x.f6.length * Try.prog.bytesOf 3 ≤ reachBytes := (fw0.1.2 x hx).2.2.2.2.2.2.1; rw [show Try.prog.bytesOf 3 = 8 from by kernel_rfl] at h_; unfold reachBytes at h_; omega, fun x hx k hk => by have := Open.wf_i64 ((wf0.1 x hx).2.2.2.2.2.2 k hk); omega⟩
 obtain ⟨kk, pure_⟩ := pure_
 refine (D.fanlightlaw10_DomBack.calls kk A0_0 c0_0 l0_0 a0_1 a0_2 a1 a2 a3 true W hr0_0 hc0_0 pure_ rfl DomEv.alive_det).mono fun e W' ⟨he, bel⟩ => ?_
 subst he
 exact ⟨_, rfl, _, _, _, [], _, [], hW', trodAll_mk1 (shut_bool Try.underlying4 _), (trodAll_cons_mk (Below.trod laidOut (by kernel_rfl) (of_decide_eq_true (by kernel_rfl)) k0 bel lt0) (trodAll_cons_mk (shut_int Try.underlying3 wf1) (trodAll_cons_mk (shut_int Try.underlying3 wf2) (trodAll_cons_mk (shut_int Try.underlying3 wf3) trodAll_mk0)))), rfl, bel.frame _, fun h => by cases h⟩
set_option maxRecDepth 100000 in
theorem lifted (os : Os) (started : os.Started) (H : Type) (enc : TypeId × Value → H) :
  ReturnsInHanded {} Try.checked os 6 .any (Rows.domBackSpec.pre6 enc Try.prog Try.f6 Rows.domBackRow.domain false) (Rows.domBackSpec.post enc Try.prog Try.f6 false true false false) := by
 refine returnsInHanded_of_change_sized (C := Try.checked) own started (by kernel_rfl) Try.func6
  (ChangeSpec.witness6 (enc := enc) (C := Try.checked) false ⟨#[], #[.agg #[.slice none 0 0, .int .i64 0, .int .i64 0], .int .i64 0, .int .i64 0, .int .i64 0], []⟩ 8 (by kernel_rfl) (by kernel_rfl) (by kernel_rfl) (by kernel_rfl)) ?_
 intro W base args ds gs before hval hW hcnd hsz _
 exact contract H enc W base args ds gs before hval hW hsz
theorem proved : Rows.DomBackSaid :=
 OpenClaim.holds_of_wide 6 Try.f6 rfl rfl rfl rfl rfl rfl rfl ⟨rfl, rfl, rfl, rfl, rfl⟩ rfl rfl rfl rfl rfl (by kernel_rfl) Try.func6 (by kernel_rfl)
  (of_decide_eq_true (by kernel_rfl)) (by unfold Func.isWrapper; first | (rw [if_pos (by decide +kernel)]; kernel_rfl) | (rw [if_neg (by decide +kernel)]; exact ⟨rfl, rfl⟩))
  (fun os started H enc _ => lifted os started H enc)
#print axioms proved
end Go.Proofs.Ytleofbidijbahaa.domBack
namespace Go.Proofs.Ytleofbidijbahaa
theorem domBack_holds : Rows.DomBackSaid := domBack.proved
end Go.Proofs.Ytleofbidijbahaa
