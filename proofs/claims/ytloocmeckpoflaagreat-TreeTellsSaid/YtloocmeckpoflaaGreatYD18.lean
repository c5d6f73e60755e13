import Derived.Test.YtloocmeckpoflaaGreatYD0
import Derived.Test.YtloocmeckpoflaaGreatYD16
import Derived.Test.YtloocmeckpoflaaGreatYD17
namespace Go.Proofs.YtloocmeckpoflaaGreat.D
open Go.RowKit Go.Proofs.YtloocmeckpoflaaGreatW.PrintWords Go.Proofs.YtloocmeckpoflaaGreatW.PrintLast Go.Proofs.YtloocmeckpoflaaGreatW.PrintMore
attribute [local go_sem] max2_int min2_int max_two min_two max_three min_three max_four min_four   -- for this text's walks alone
set_option linter.unusedVariables false
set_option linter.unusedSimpArgs false
set_option maxRecDepth 100000 in
set_option maxHeartbeats 4000000 in
theorem repl_is (g : Nat) (s : ByteArray) (hs : s.size ≤ 100000) (w : World) (hr : Rep w g) :
  Calls Tryz.prog 22 #[.pointer (some ⟨g, 0, none⟩), .string s] w fun e w' => e = .returned (.string (escB s)) ∧ But g w w' ∧ Rep w' g := by
 have hm : ∀ (b : Nat) (w : World), (method 286 116 (.pointer (some ⟨b, 0, none⟩)) "Replace").run Tryz.prog w = .ok (116, .pointer (some ⟨b, 0, none⟩)) w := fun _ _ => by kernel_rfl
 have HD := Aside0.mk (do_is g w hr)
 clear hr
 go_enter Tryz.func22, Tryz.ntmps22
 go_wp2_with (go_at_call 36; refine HD.out.mono ?_; rintro e w1 ⟨rfl, hB, hb⟩; have HR := Aside0.mk hB; obtain ⟨q, tb, f, ta, tc, h1, h2, h3, h4⟩ := hB; have c3 := blk_cell h1 3; have HB := Aside0.mk hb; have HX := Aside0.mk (bsr_is tb ta tc f s hs w1 h2 h3 h4); clear hb h1 h2 h3 h4)
 go_wp2_with (go_at_call 116; refine HX.out.mono ?_; rintro e w2 ⟨rfl, hb⟩; have HB2 := Aside0.mk hb; clear hb)
 go_ret
 exact ⟨rfl, HB.out.trans (But.of HB2.out), Or.inr (HR.out.kept (RepKept.of HB2.out))⟩
end Go.Proofs.YtloocmeckpoflaaGreat.D
