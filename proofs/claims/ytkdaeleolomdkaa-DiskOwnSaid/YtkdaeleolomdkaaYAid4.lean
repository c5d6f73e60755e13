/- What the print's words and the walks are, as far as this claim names them. -/
import Derived.Test.YtkdaeleolomdkaaYAid
import Derived.Test.YtkdaeleolomdkaaYAid2
namespace Go
section
variable {P : Program} {ops : Array Oper} {Q : Exit → Act → World → Prop} {l n : Nat} {rest : List Oper} {o : Oper} {a : Act} {W : World}
theorem wpListIn_of_list (hgd : o.guard = none) (hd : ∀ c, o.op ≠ .defer c) (h : wpList P ops (fun e a w => e = .normal ∧ wpListIn (Fence.wide.inRound l) n P ops Q rest a w) [o] a W) : wpListIn (Fence.wide.inRound l) n P ops Q (o :: rest) a W := by
 have hw : Region.wanted o (yielded ops a.tmps) = true := by simp [Region.wanted, hgd]
 refine wpListIn_plain hgd fun K hK => wideRound_wpIn hd ?_
 unfold wpList at h
 rw [if_pos hw] at h
 rcases h with h | ⟨_, hl⟩
 ·
  unfold Oper.wp at h ⊢
  generalize (execOp a.eval o).run P W = r at *
  cases r with
  | ok x w' =>
   cases x with
   | value v => exact hK _ _ h.2
   | skip => exact hK _ _ h.2
   | defer d => exact hK _ _ h.2
   | enter f args =>
    refine Calls.mono h (fun e w h => ?_)
    rcases e with v | ch | _
    ·
     exact hK _ _ h.2
    ·
     cases h.1
    ·
     obtain ⟨a2, w2, hq⟩ := h
     cases hq.1
   | row row args =>
    intro c cs
    obtain ⟨v, w', r, s⟩ := h c cs
    exact ⟨v, w', hK _ _ r.2, s⟩
   | _ => exact h.elim
  | halt x w' => cases x <;> first | exact h.elim | cases h.1
 ·
  obtain ⟨a, w, hq⟩ := hl
  cases hq.1
end
end Go
