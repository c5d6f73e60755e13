/- What the print's words and the walks are, as far as this claim names them. -/
import Derived.Test.YtgmkgobapeencaaRows
import Derived.Test.YtgmkgobapeencaaYOpen
import Derived.Test.YtgmkgobapeencaaYS33
import Derived.WalkKit
import Derived.ProofKit
import Derived.OpenShut
import Derived.ShutString
import Derived.ChangeOld
import Derived.Below
import Derived.SizedLaws
import Derived.JoinedCond
import Derived.Lib.SmallJoins
namespace Go.Proofs.Ytgmkgobapeencaa.walOwn
open Go.ChangeShapes Go.WideShapes Go.ChangeAt Go.RowKit
open Go.ChangeMaps (open_string shut_string)
set_option linter.unusedVariables false
set_option linter.unusedSimpArgs false
theorem own : ownKnob Try.prog.godebug = none := by kernel_rfl
theorem laidOut : laidOutB Try.prog = true := by kernel_rfl
set_option maxRecDepth 100000 in
theorem contract (H : Type) (enc : TypeId × Value → H) (W : World) (base : Nat) (args : Array Value) (ds gs : List (DataW H)) (before : List MemPlace)
  (hval0 : ∀ (j : Nat) t v, Try.f3.params[j]? = some t → args[j]? = some v → Value.okWide Try.prog W .any base t v)
  (hW : DataW.Whole enc Try.prog Try.f3.params.toList Rows.walOwnSpec.vars false W args.toList ds gs before)
  (hk : Rows.uptoSmall H (ds ++ gs) = true) :
  Calls Try.prog 3 args W fun e W' => ∃ v, e = .returned v ∧ Rows.walOwnSpec.post enc Try.prog Try.f3 false true false false W args v W' := by
 have hW' := hW
 obtain ⟨p, q, hA0, hV, rfl, hfz, hnd⟩ := hW
 have hA : DataW.TrodAll enc Try.prog W 0 (fun _ => true) true Try.f3.params.toList args.toList ds p := hA0
 have hval := hval0
 rw [Try.params3] at hA hval
 obtain ⟨v0, vs0, d0, ds0, p0, q0, hargs, rfl, rfl, h0, r0⟩ := trodAll_cons hA
 obtain ⟨v1, vs1, d1, ds1, p1, q1, rfl, rfl, rfl, h1, r1⟩ := trodAll_cons r0
 obtain ⟨rfl, rfl, rfl⟩ := trodAll_nil r1
 obtain rfl : args = #[v0, v1] := by cases args; simp_all
 obtain ⟨rfl, rfl⟩ := trodVars_none hV
 have hbk : Rows.uptoBulkAll [d0, d1] ≤ 1048576 := of_decide_eq_true hk
 simp only [Rows.uptoBulkAll] at hbk
 clear hA0 hval0
 have k0 := h0
 have lt0 : ∀ x ∈ p0, x.block < W.heap.size := by obtain ⟨m, hm⟩ := k0; exact DataW.trod_lt m _ _ _ hm
 obtain ⟨cs, rfl, hsz0⟩ := okWide_struct Try.underlying24 (hval 0 24 v0 rfl rfl)
 obtain ⟨mm, hm⟩ := h0
 obtain ⟨⟨l0_0, a0_1⟩, ⟨u0, u0', ez0, ⟨A0_0, c0_0, rfl, hc0_0, hr0_0⟩, rfl⟩, wf0, fit0, bk0⟩ := (Open.struct Try.underlying24 (by kernel_rfl) (Open.cons (Open.slice Try.underlying22 (by kernel_rfl) (Open.slice Try.underlying25 (by kernel_rfl) (Open.int (n := mm) Try.underlying5))) rfl (by kernel_rfl) (Open.one (Open.int (n := mm + 1 + 1) Try.underlying3) rfl (by kernel_rfl)))) H enc W 0 (fun _ => true) true mm (by omega) _ _ _ hm
 obtain rfl : cs = #[.slice A0_0 l0_0.length c0_0, .int .i64 a0_1] := by cases cs; simp_all [Value.cells]
 clear hm hsz0 ez0
 have k1 := h1
 have lt1 : ∀ x ∈ p1, x.block < W.heap.size := by obtain ⟨m, hm⟩ := k1; exact DataW.trod_lt m _ _ _ hm
 obtain ⟨A1, len1, c1, rfl⟩ := okWide_slice Try.underlying25 (hval 1 25 v1 rfl rfl)
 obtain ⟨mm, hm⟩ := h1
 obtain ⟨l1, ⟨A', c', e', hc1, hr1⟩, wf1, fit1, bk1⟩ := (Open.slice Try.underlying25 (by kernel_rfl) (Open.int (n := mm) Try.underlying5)) H enc W 0 (fun _ => true) true mm (by omega) _ _ _ hm
 obtain ⟨rfl, rfl, rfl⟩ : A1 = A' ∧ len1 = l1.length ∧ c1 = c' := by simpa [Value.cells] using e'
 clear e' hm
 simp only [Open.sum_ones] at *
 have ee1 : (1 : Nat) + 0 = 1 := rfl
 have pure_ := PureOwn.WalOwn l0_0 a0_1 l1 (fun s hs => ⟨fun x hx => Open.wf_u8 (wf0.1 s hs x hx), by have := (Open.rows_sum l0_0).2 s hs; omega⟩) (by have := (Open.rows_sum l0_0).1; omega) (fun x hx => Open.wf_u8 (wf1 x hx)) (by omega)
 obtain ⟨kk, pure_⟩ := pure_
 refine (S.fanlightlaw06_WalOwn.calls kk A0_0 c0_0 l0_0 a0_1 A1 c1 l1 true W hr0_0 hc0_0 hr1 hc1 pure_).mono fun e W' ⟨he, bel⟩ => ?_
 subst he
 exact ⟨_, rfl, _, _, _, [], _, [], hW', trodAll_mk1 (shut_bool Try.underlying4 _), (trodAll_cons_mk (Below.trod laidOut (by kernel_rfl) (of_decide_eq_true (by kernel_rfl)) k0 bel lt0) (trodAll_cons_mk (Below.trod laidOut (by kernel_rfl) (of_decide_eq_true (by kernel_rfl)) k1 bel lt1) trodAll_mk0)), rfl, bel.frame _, fun h => by cases h⟩
set_option maxRecDepth 100000 in
theorem lifted (os : Os) (started : os.Started) (H : Type) (enc : TypeId × Value → H) (F : Stop.Interp) :
  ReturnsInHanded {} Try.checked os 3 .any ((Rows.OpenSpec.upto Rows.walOwnSpec).pre6 enc Try.prog Try.f3 Rows.walOwnUptoRow.domain false) (((Rows.OpenSpec.upto Rows.walOwnSpec).at F).post enc Try.prog Try.f3 false true false false) := by
 refine returnsInHanded_of_cond (C := Try.checked) (s := Rows.OpenSpec.upto Rows.walOwnSpec) (k := Rows.uptoSmall) rfl own started (by kernel_rfl) Try.func3
  (OpenSpec.witness (enc := enc) (C := Try.checked) (s := Rows.OpenSpec.upto Rows.walOwnSpec) (k := Rows.uptoSmall) rfl false ⟨#[], #[.agg #[.slice none 0 0, .int .i64 0], .slice none 0 0], []⟩ 8 (by kernel_rfl) (by kernel_rfl) (by kernel_rfl)
   (x := ([.agg [.nil, .lit (.int .i64 0)], .nil], [], [])) (by kernel_rfl) rfl (by kernel_rfl)) ?_
 intro W base args ds gs before hval hW _ hk _
 exact contract H enc W base args ds gs before hval hW hk
theorem proved : Rows.WalOwnUptoSaid :=
 OpenClaim.holds_of_cond 3 Try.f3 rfl rfl rfl rfl rfl rfl rfl ⟨rfl, rfl, rfl, rfl, rfl⟩ rfl rfl rfl rfl rfl (by kernel_rfl) Try.func3 (by kernel_rfl)
  (of_decide_eq_true (by kernel_rfl)) (by unfold Func.isWrapper; first | (rw [if_pos (by decide +kernel)]; kernel_rfl) | (rw [if_neg (by decide +kernel)]; exact ⟨rfl, rfl⟩))
  (fun os started H enc _ F => lifted os started H enc F)
#print axioms proved
end Go.Proofs.Ytgmkgobapeencaa.walOwn
namespace Go.Proofs.Ytgmkgobapeencaa
theorem walOwn_holds : Rows.WalOwnUptoSaid := walOwn.proved
end Go.Proofs.Ytgmkgobapeencaa
