/- The statement SealScans: what its function's walk and its plain law give, for every argument of the form. -/
import Derived.Test.YtchmncgnaiiijaaRows
import Derived.Test.YtchmncgnaiiijaaPureSealScansV
import Derived.Test.YtchmncgnaiiijaaV15
import Derived.Test.YtchmncgnaiiijaaOpen
import Derived.WalkKit
import Derived.ProofKit
import Derived.OpenShut
import Derived.ShutString
import Derived.ChangeOld
import Derived.Below
import Derived.SizedLaws
import Derived.JoinedCond
import Derived.Lib.SmallJoins
namespace Go.Proofs.Ytchmncgnaiiijaa.sealScans
open Go.ChangeShapes Go.WideShapes Go.ChangeAt Go.RowKit
open Go.ChangeMaps (open_string shut_string)
set_option linter.unusedVariables false
set_option linter.unusedSimpArgs false
theorem own : ownKnob Try.prog.godebug = none := by kernel_rfl
theorem laidOut : laidOutB Try.prog = true := by kernel_rfl
set_option maxRecDepth 100000 in
theorem contract (H : Type) (enc : TypeId × Value → H) (W : World) (base : Nat) (args : Array Value) (ds gs : List (DataW H)) (before : List MemPlace)
    (hval0 : ∀ (j : Nat) t v, Try.f13.params[j]? = some t → args[j]? = some v → Value.okWide Try.prog W .any base t v)
    (hW : DataW.Whole enc Try.prog Try.f13.params.toList Rows.sealScansSpec.vars false W args.toList ds gs before)
    (hsz0 : (DataW.weightsEach Try.prog (Try.f13.params.toList ++ Rows.sealScansSpec.plain.varTypes Try.prog) (ds ++ gs)).all (· ≤ reachBytes) = true) :
    Calls Try.prog 13 args W fun e W' => ∃ v, e = .returned v ∧ Rows.sealScansSpec.post enc Try.prog Try.f13 false true false false W args v W' := by
  have hW' := hW
  obtain ⟨p, q, hA0, hV, rfl, hfz, hnd⟩ := hW
  have hA : DataW.TrodAll enc Try.prog W 0 (fun _ => true) true Try.f13.params.toList args.toList ds p := hA0
  have hval := hval0
  rw [Try.params13] at hA hval hsz0
  obtain ⟨v0, vs0, d0, ds0, p0, q0, hargs, rfl, rfl, h0, r0⟩ := trodAll_cons hA
  obtain ⟨v1, vs1, d1, ds1, p1, q1, rfl, rfl, rfl, h1, r1⟩ := trodAll_cons r0
  obtain ⟨rfl, rfl, rfl⟩ := trodAll_nil r1
  obtain rfl : args = #[v0, v1] := by cases args; simp_all
  obtain ⟨rfl, rfl⟩ := trodVars_none hV
  have hall : ∀ z ∈ DataW.weightsEach Try.prog [64, 3] [d0, d1], z ≤ reachBytes := fun z hz => of_decide_eq_true (List.all_eq_true.1 hsz0 z hz)
  have hw0 : ∀ z ∈ DataW.weights Try.prog 64 d0, z ≤ reachBytes := fun z hz => hall z (List.mem_append_left _ hz)
  have hw1 : ∀ z ∈ DataW.weights Try.prog 3 d1, z ≤ reachBytes := fun z hz => hall z (List.mem_append_right _ (List.mem_append_left _ hz))
  clear hall hsz0
  clear hA0 hval0
  have k0 := h0
  have lt0 : ∀ x ∈ p0, x.block < W.heap.size := by obtain ⟨m, hm⟩ := k0; exact DataW.trod_lt m _ _ _ hm
  obtain ⟨A0, len0, c0, rfl⟩ := okWide_slice Try.underlying64 (hval 0 64 v0 rfl rfl)
  obtain ⟨mm, hm⟩ := h0
  obtain ⟨l0, ⟨A', c', e', hc0, hr0⟩, wf0, fit0, bk0⟩ := (Open.slice Try.underlying64 (by kernel_rfl) (Open.iso (Open.struct Try.underlying34 (by kernel_rfl) (Open.cons (Open.int (n := mm + 1) Try.underlying3) rfl (by kernel_rfl) (Open.one (Open.slice Try.underlying32 (by kernel_rfl) (Open.int (n := mm) Try.underlying5)) rfl (by kernel_rfl)))) (fun x : V.S34 => (x.f0, x.f1)) (fun p => ⟨p.1, p.2⟩) (fun _ => rfl))) H enc W 0 (fun _ => true) true mm (by omega) _ _ _ hm
  obtain ⟨rfl, rfl, rfl⟩ : A0 = A' ∧ len0 = l0.length ∧ c0 = c' := by simpa [Value.cells] using e'
  clear e' hm
  obtain ⟨a1, rfl, rfl, rfl, wf1⟩ := open_int Try.underlying3 (hval 1 3 v1 rfl rfl) h1
  have fw0 := fit0 hw0
  have pure_ := Pure.SealScans l0 a1 (fun g hg => ⟨fun x hx => Open.wf_u8 ((wf0 g hg).2 x hx), Open.len1 ((fw0.2 g hg).2.1) (by kernel_rfl)⟩) (by have h1 := fw0.1; have h2 : Try.prog.bytesOf 34 = 32 := (by kernel_rfl); rw [h2] at h1; have h3 : l0.length * 32 ≤ 140737488351232 := h1; omega) (Open.wf_i64 wf1)
  obtain ⟨kk, pure_⟩ := pure_
  refine (V.fanlightlaw04_SealScans.calls kk (fun k => k < W.heap.size) A0 c0 l0 a1 true W (Go.Proofs.YtchmncgnaiiijaaW.PrintWords.Kd.V_mk hc0 (Go.Proofs.YtchmncgnaiiijaaW.PrintWords.Kd.C_F (Go.Proofs.YtchmncgnaiiijaaW.PrintWords.Kd.heap_iso _ (Go.Proofs.YtchmncgnaiiijaaW.PrintWords.Kd.heap_pair (Go.Proofs.YtchmncgnaiiijaaW.PrintWords.Kd.heap_int .i64) (Go.Proofs.YtchmncgnaiiijaaW.PrintWords.Kd.heap_slice _ (Go.Proofs.YtchmncgnaiiijaaW.PrintWords.Kd.heap_int .u8)))) hr0)) pure_ rfl).mono fun e W' ⟨he, bel⟩ => ?_
  subst he
  exact ⟨_, rfl, _, _, _, [], _, [], hW', trodAll_mk1 (shut_bool Try.underlying4 _), (trodAll_cons_mk (Below.trod laidOut (by kernel_rfl) (of_decide_eq_true (by kernel_rfl)) k0 bel lt0) (trodAll_cons_mk (shut_int Try.underlying3 wf1) trodAll_mk0)), rfl, bel.frame _, fun h => by cases h⟩
set_option maxRecDepth 100000 in
theorem lifted (os : Os) (started : os.Started) (H : Type) (enc : TypeId × Value → H) :
    ReturnsInHanded {} Try.checked os 13 .any (Rows.sealScansSpec.pre6 enc Try.prog Try.f13 Rows.sealScansRow.domain false) (Rows.sealScansSpec.post enc Try.prog Try.f13 false true false false) := by
  refine returnsInHanded_of_change_sized (C := Try.checked) own started (by kernel_rfl) Try.func13
    (ChangeSpec.witness6 (enc := enc) (C := Try.checked) false ⟨#[], #[.slice none 0 0, .int .i64 0], []⟩ 8 (by kernel_rfl) (by kernel_rfl) (by kernel_rfl) (by kernel_rfl)) ?_
  intro W base args ds gs before hval hW hcnd hsz _
  exact contract H enc W base args ds gs before hval hW hsz
theorem proved : Rows.SealScansSaid :=
  OpenClaim.holds_of_wide 13 Try.f13 rfl rfl rfl rfl rfl rfl rfl ⟨rfl, rfl, rfl, rfl, rfl⟩ rfl rfl rfl rfl rfl (by kernel_rfl) Try.func13 (by kernel_rfl)
    (of_decide_eq_true (by kernel_rfl)) (by unfold Func.isWrapper; first | (rw [if_pos (by decide +kernel)]; kernel_rfl) | (rw [if_neg (by decide +kernel)]; exact ⟨rfl, rfl⟩))
    (fun os started H enc _ => lifted os started H enc)
#print axioms proved
end Go.Proofs.Ytchmncgnaiiijaa.sealScans
namespace Go.Proofs.Ytchmncgnaiiijaa
/-- The row, under a short name, for the claim. -/
theorem sealScans_holds : Rows.SealScansSaid := sealScans.proved
end Go.Proofs.Ytchmncgnaiiijaa
