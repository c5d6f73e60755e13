/- What the program's functions of layer 4 come to, said by the plain words. -/
import Derived.Test.YtchmncgnaiiijaaCrc
import Derived.Test.YtchmncgnaiiijaaS12
namespace Go.Proofs.Ytchmncgnaiiijaa.SealEv
set_option linter.unusedVariables false
set_option linter.unusedSimpArgs false
open Go.RowKit Go.Proofs.Ytchmncgnaiiijaa.S Go.Proofs.YtchmncgnaiiijaaW.PrintWords Go.Proofs.YtchmncgnaiiijaaW.PrintLast

theorem wrapI {i : Int} (h0 : -9223372036854775808 ≤ i) (h1 : i ≤ 9223372036854775807) : wrap64 i = i := by unfold wrap64; omega
theorem copy_is {l : List Int} (h : l.length < 140737488355328) : fanlightplain_CopyBytes.f l = some l := by
  unfold fanlightplain_CopyBytes.f
  rw [if_pos (by simpa using h), List.nil_append]
theorem of_is {k : Int} {l : List Int} (h : l.length < 140737488355328) : fanlightlaw04_of.f k l = some (k, l) := by
  unfold fanlightlaw04_of.f
  rw [copy_is h, Option.bind_some]
theorem same_is (k : Int) (l : List Int) : fanlightlaw04_same.f k l k l = some true := by
  unfold fanlightlaw04_same.f fanlightplain_SameBytes.f
  rw [if_pos rfl, Option.bind_some, beq_self_eq_true]
/-- a frame's octets -/
def framed (k : Int) (l : List Int) : List Int := sealBody k l ++ laidL (sumOf (sealBody k l))
theorem put_bad {k : Int} {l : List Int} (h : k < 1 ∨ 255 < k) : seal_Put.f k l = some ([], 22) := by
  unfold seal_Put.f
  rw [if_pos (by omega)]
theorem put_long {k : Int} {l : List Int} (h0 : 1 ≤ k) (h1 : k ≤ 255) (h : 65536 < l.length) : seal_Put.f k l = some ([], 5) := by
  unfold seal_Put.f
  rw [if_neg (by omega), if_pos h]
theorem put_good {k : Int} {l : List Int} (h0 : 1 ≤ k) (h1 : k ≤ 255) (h : l.length ≤ 65536) : seal_Put.f k l = some (framed k l, 0) := by
  unfold seal_Put.f
  rw [if_neg (by omega), if_neg (by omega)]
  rfl
theorem body_length (k : Int) (l : List Int) : (sealBody k l).length = l.length + 4 := by
  simp [sealBody, sealHead]
theorem laid_length (c : Int) : (laidL c).length = 4 := rfl
theorem framed_length (k : Int) (l : List Int) : (framed k l).length = l.length + 8 := by
  unfold framed
  rw [List.length_append, body_length, laid_length]
theorem laid_octs (c : Int) : octs (laidL c) := by
  intro x hx
  simp only [laidL, List.mem_cons, List.mem_nil_iff, or_false] at hx
  rcases hx with rfl | rfl | rfl | rfl <;> omega
theorem body_octs {k : Int} {l : List Int} (ho : octs l) : octs (sealBody k l) := by
  intro x hx
  simp only [sealBody, sealHead, List.mem_append, List.mem_cons, List.mem_nil_iff, or_false] at hx
  rcases hx with (rfl | rfl | rfl | rfl) | h
  · omega
  · omega
  · omega
  · omega
  · exact ho x h
theorem octs_append {a b : List Int} (ha : octs a) (hb : octs b) : octs (a ++ b) := fun x hx => by
  rcases List.mem_append.1 hx with h | h
  · exact ha x h
  · exact hb x h
theorem framed_octs {k : Int} {l : List Int} (ho : octs l) : octs (framed k l) := octs_append (body_octs ho) (laid_octs _)
theorem rd_body (k : Int) (l more : List Int) : rd (sealBody k l ++ more) 0 = k % 256 ∧ rd (sealBody k l ++ more) 1 = (l.length : Int) / 65536 % 256 ∧ rd (sealBody k l ++ more) 2 = (l.length : Int) / 256 % 256 ∧ rd (sealBody k l ++ more) 3 = (l.length : Int) % 256 := ⟨rfl, rfl, rfl, rfl⟩
theorem num3_body {k : Int} {l more : List Int} (h : l.length ≤ 65536) : num3 (sealBody k l ++ more) = l.length := by
  obtain ⟨_, h1, h2, h3⟩ := rd_body k l more
  unfold num3
  rw [h1, h2, h3]
  omega
theorem getS_framed {k : Int} {l : List Int} (h0 : 1 ≤ k) (h1 : k ≤ 255) (h : l.length ≤ 65536) (more : List Int) : getS (framed k l ++ more) = (k, l, (l.length : Int) + 8, 0) := by
  have e : framed k l ++ more = sealBody k l ++ (laidL (sumOf (sealBody k l)) ++ more) := by unfold framed; rw [List.append_assoc]
  have hlen : (framed k l ++ more).length = l.length + 8 + more.length := by rw [List.length_append, framed_length]
  obtain ⟨r0, _⟩ := rd_body k l (laidL (sumOf (sealBody k l)) ++ more)
  have hn := num3_body (k := k) (more := laidL (sumOf (sealBody k l)) ++ more) h
  have hb : ((l.length : Int) + 4).toNat = (sealBody k l).length := by rw [body_length]; omega
  unfold getS
  rw [if_neg (by omega), e, r0, hn, if_neg (by omega), if_neg (by omega), if_neg (by rw [← e, hlen]; omega), hb, List.take_left, List.drop_left, if_pos]
  · rw [show k % 256 = k by omega]
    rfl
  · rw [show (4 : Nat) = (laidL (sumOf (sealBody k l))).length from rfl, List.take_left]
theorem get_is {l : List Int} (h : l.length ≤ 140737488351232) (ho : octs l) : seal_Get.f l = some (getS l) := by
  unfold seal_Get.f
  rw [if_pos ⟨h, ho⟩]
/-- spoiling ends -/
theorem spoil_l0 (n : Nat) : ∀ (d : Nat) (x0 : List Int) (i : Nat), x0.length = n → n ≤ 4611686018427387904 → n - i = d → ∃ r, Ev (fun k => fanlightplain_Spoil.l0 k x0 i) r
  | 0, x0, i, hl, hn, hd => by
    refine ⟨x0, Ev.step (fun k => rfl) ?_⟩
    have n1 : ¬ (i : Int) < (x0.length : Int) := by omega
    simp only [fanlightplain_Spoil.l0, if_neg n1]
    exact Ev.now _
  | d + 1, x0, i, hl, hn, hd => by
    have n1 : (i : Int) < (x0.length : Int) := by omega
    have n2 : (0 : Int) ≤ (i : Int) := by omega
    have n3 : wrap64 ((i : Int) + 1) = ((i + 1 : Nat) : Int) := by rw [wrapI] <;> omega
    obtain ⟨r, hr⟩ := spoil_l0 n d (x0.set (i : Int).toNat (Go.bits .xor .u8 255 (rd x0 i))) (i + 1) (by rw [List.length_set]; exact hl) hn (by omega)
    refine ⟨r, Ev.step (fun k => rfl) ?_⟩
    simp only [fanlightplain_Spoil.l0, if_pos n1, if_pos n2, n3]
    exact hr
theorem spoil_is (l : List Int) (h : l.length ≤ 4611686018427387904) : ∃ r, Ev (fun k => fanlightplain_Spoil.f k l) r := spoil_l0 l.length _ l 0 rfl h rfl
end Go.Proofs.Ytchmncgnaiiijaa.SealEv
