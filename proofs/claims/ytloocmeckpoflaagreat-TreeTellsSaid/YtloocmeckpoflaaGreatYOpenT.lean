/- What the print's words and the walks are, as far as this claim names them. -/
import Derived.Test.YtloocmeckpoflaaGreatYOpen
import Derived.Test.YtloocmeckpoflaaGreatYTreeWide
import Derived.Test.YtloocmeckpoflaaGreatYD12
namespace Go.Proofs.YtloocmeckpoflaaGreat.OpenT
set_option linter.unusedVariables false
set_option linter.unusedSimpArgs false
open Go.ChangeShapes Go.WideShapes Go.RowKit Go.Proofs.YtloocmeckpoflaaGreatW.PrintWords Go.Proofs.YtloocmeckpoflaaGreat.Open Go.Proofs.YtloocmeckpoflaaGreat.D Go.Proofs.YtloocmeckpoflaaGreat.TreeWide
theorem le {α : Type} {P : Program} {n n' : Nat} {k : Kd α} {t : TypeId} {Wf Fit : α → Prop} {bk : α → Nat} (hn : n' ≤ n) (h : Opens P n k t Wf Fit bk) : Opens P n' k t Wf Fit bk :=
 fun H enc w base sp held m hm => h H enc w base sp held m (Nat.le_trans hm hn)
theorem attr {n : Nat} : Opens Tryz.prog n k91 91 (fun x => x.f0.size ≤ maxLen ∧ x.f1.size ≤ maxLen) (fun x => x.f0.size ≤ reachBytes ∧ x.f1.size ≤ reachBytes) (fun _ => 0) := by
 intro H enc w base sp held m hm cs d ps hh
 obtain ⟨⟨x0, x1⟩, hk, hw, hf, hb⟩ := (Open.struct (n := n) (k := Kd.pair Kd.string Kd.string) Tryz.underlying91 (by kernel_rfl) (Open.cons (Open.string (n := n) Tryz.underlying9) rfl (by kernel_rfl) (Open.one (Open.string (n := n) Tryz.underlying9) rfl (by kernel_rfl)))) H enc w base sp held m (by omega) cs d ps hh
 obtain ⟨_, _, rfl, rfl, rfl⟩ := hk
 exact ⟨⟨x0, x1⟩, k91_mk w ⟨x0, x1⟩, hw, hf, Nat.zero_le _⟩
theorem okL_all : ∀ l : List S25, (∀ x ∈ l, x.f1.size ≤ maxLen ∧ okT x = true) → okL l = true
 | [], _ => by rw [okL]
 | x :: xs, h => by
  rw [okL, Bool.and_eq_true, Bool.and_eq_true, decide_eq_true_eq]
  exact ⟨(h x (by simp)).1, (h x (by simp)).2, okL_all xs (fun y hy => h y (by simp [hy]))⟩
theorem big_of {a0 a1 a2 : ByteArray} {l3 : List S91} {l4 : List S25} (h3 : l3.length * Tryz.prog.bytesOf 91 ≤ reachBytes) (h4 : l4.length * Tryz.prog.bytesOf 25 ≤ reachBytes) (h : ∀ x ∈ l4, bigT x = true) : bigT ⟨a0, a1, a2, l3, l4⟩ = true := by
 rw [show Tryz.prog.bytesOf 91 = 32 from by kernel_rfl] at h3
 rw [show Tryz.prog.bytesOf 25 = 96 from by kernel_rfl] at h4
 have e : reachBytes = 140737488351232 := rfl
 rw [e] at h3 h4
 rw [bigT, bigL_all l4 h, decide_eq_true h3, decide_eq_true h4]
 rfl
theorem tree2 : ∀ n : Nat, Opens Tryz.prog (2 * n) k25 25 (fun x => x.f1.size ≤ maxLen ∧ okT x = true) (fun x => bigT x = true) (fun _ => 0)
 | 0 => by
  intro H enc w base sp held m hm cs d ps hh
  obtain ⟨xs, m', e, _⟩ := DataW.trod_struct Tryz.underlying25 hh
  omega
 | n + 1 => by
  intro H enc w base sp held m hm cs d ps hh
  have ihn := tree2 n
  obtain ⟨⟨x0, x1, x2, x3, x4⟩, hk, hw, hf, hb⟩ := (Open.struct (n := 2 * n + 1) (k := Kd.pair Kd.string (Kd.pair Kd.string (Kd.pair Kd.string (Kd.pair (Kd.slice 91 k91) (Kd.slice 25 k25))))) Tryz.underlying25 (by kernel_rfl)
   (Open.cons (Open.string Tryz.underlying9) rfl (by kernel_rfl) (Open.cons (Open.string Tryz.underlying9) rfl (by kernel_rfl) (Open.cons (Open.string Tryz.underlying9) rfl (by kernel_rfl) (Open.cons (Open.slice Tryz.underlying22 (by kernel_rfl) (attr (n := 2 * n))) rfl (by kernel_rfl) (Open.one (Open.slice Tryz.underlying23 (by kernel_rfl) ihn) rfl (by kernel_rfl))))))) H enc w base sp held m (by omega) cs d ps hh
  obtain ⟨_, _, rfl, rfl, ⟨_, _, rfl, rfl, ⟨_, _, rfl, rfl, ⟨_, _, rfl, ⟨A3, c3, rfl, l3, g3⟩, ⟨A4, c4, rfl, l4, g4⟩⟩⟩⟩⟩ := hk
  refine ⟨⟨x0, x1, x2, x3, x4⟩, k25_mk w ⟨x0, x1, x2, x3, x4⟩ l3 g3 l4 g4, ⟨hw.2.1, ?_⟩, fun hz => ?_, Nat.zero_le _⟩
  rotate_left
  ·
   have hf2 := hf hz
   exact big_of hf2.2.2.2.1.1 hf2.2.2.2.2.1 hf2.2.2.2.2.2
  rw [okT_eq]
  exact okL_all _ hw.2.2.2.2
theorem tree {n : Nat} : Opens Tryz.prog n k25 25 (fun x => x.f1.size ≤ maxLen ∧ okT x = true) (fun x => bigT x = true) (fun _ => 0) := le (by omega) (tree2 n)
end Go.Proofs.YtloocmeckpoflaaGreat.OpenT
