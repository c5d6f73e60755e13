/- What the print's words and the walks are, as far as this claim names them. -/
import Derived.Test.YtloocmeckpoflaaYOpen
import Derived.Test.YtloocmeckpoflaaYD7
namespace Go.Proofs.Ytloocmeckpoflaa.OpenT
set_option linter.unusedVariables false
set_option linter.unusedSimpArgs false
open Go.ChangeShapes Go.WideShapes Go.RowKit Go.Proofs.YtloocmeckpoflaaW.PrintWords Go.Proofs.Ytloocmeckpoflaa.Open Go.Proofs.Ytloocmeckpoflaa.D
theorem le {α : Type} {P : Program} {n n' : Nat} {k : Kd α} {t : TypeId} {Wf Fit : α → Prop} {bk : α → Nat} (hn : n' ≤ n) (h : Opens P n k t Wf Fit bk) : Opens P n' k t Wf Fit bk :=
 fun H enc w base sp held m hm => h H enc w base sp held m (Nat.le_trans hm hn)
theorem attr {n : Nat} : Opens Try.prog n k53 53 (fun x => x.f0.size ≤ maxLen ∧ x.f1.size ≤ maxLen) (fun x => x.f0.size ≤ reachBytes ∧ x.f1.size ≤ reachBytes) (fun _ => 0) := by
 intro H enc w base sp held m hm cs d ps hh
 obtain ⟨⟨x0, x1⟩, hk, hw, hf, hb⟩ := (Open.struct (n := n) (k := Kd.pair Kd.string Kd.string) Try.underlying53 (by kernel_rfl) (Open.cons (Open.string (n := n) Try.underlying9) rfl (by kernel_rfl) (Open.one (Open.string (n := n) Try.underlying9) rfl (by kernel_rfl)))) H enc w base sp held m (by omega) cs d ps hh
 obtain ⟨_, _, rfl, rfl, rfl⟩ := hk
 exact ⟨⟨x0, x1⟩, k53_mk w ⟨x0, x1⟩, hw, hf, Nat.zero_le _⟩
theorem okL_all : ∀ l : List S25, (∀ x ∈ l, x.f1.size ≤ maxLen ∧ okT x = true) → okL l = true
 | [], _ => by rw [okL]
 | x :: xs, h => by
  rw [okL, Bool.and_eq_true, Bool.and_eq_true, decide_eq_true_eq]
  exact ⟨(h x (by simp)).1, (h x (by simp)).2, okL_all xs (fun y hy => h y (by simp [hy]))⟩
theorem tree2 : ∀ n : Nat, Opens Try.prog (2 * n) k25 25 (fun x => x.f1.size ≤ maxLen ∧ okT x = true) (fun _ => True) (fun _ => 0)
 | 0 => by
  intro H enc w base sp held m hm cs d ps hh
  obtain ⟨xs, m', e, _⟩ := DataW.trod_struct Try.underlying25 hh
  omega
 | n + 1 => by
  intro H enc w base sp held m hm cs d ps hh
  have ihn := tree2 n
  obtain ⟨⟨x0, x1, x2, x3, x4⟩, hk, hw, hf, hb⟩ := (Open.struct (n := 2 * n + 1) (k := Kd.pair Kd.string (Kd.pair Kd.string (Kd.pair Kd.string (Kd.pair (Kd.slice 53 k53) (Kd.slice 25 k25))))) Try.underlying25 (by kernel_rfl)
   (Open.cons (Open.string Try.underlying9) rfl (by kernel_rfl) (Open.cons (Open.string Try.underlying9) rfl (by kernel_rfl) (Open.cons (Open.string Try.underlying9) rfl (by kernel_rfl) (Open.cons (Open.slice Try.underlying22 (by kernel_rfl) (attr (n := 2 * n))) rfl (by kernel_rfl) (Open.one (Open.slice Try.underlying23 (by kernel_rfl) ihn) rfl (by kernel_rfl))))))) H enc w base sp held m (by omega) cs d ps hh
  obtain ⟨_, _, rfl, rfl, ⟨_, _, rfl, rfl, ⟨_, _, rfl, rfl, ⟨_, _, rfl, ⟨A3, c3, rfl, l3, g3⟩, ⟨A4, c4, rfl, l4, g4⟩⟩⟩⟩⟩ := hk
  refine ⟨⟨x0, x1, x2, x3, x4⟩, k25_mk w ⟨x0, x1, x2, x3, x4⟩ l3 g3 l4 g4, ⟨hw.2.1, ?_⟩, fun _ => trivial, Nat.zero_le _⟩
  rw [okT_eq]
  exact okL_all _ hw.2.2.2.2
theorem tree {n : Nat} : Opens Try.prog n k25 25 (fun x => x.f1.size ≤ maxLen ∧ okT x = true) (fun _ => True) (fun _ => 0) := le (by omega) (tree2 n)
theorem heapA : Kd.Heap k53 := Kd.heap_iso _ (Kd.heap_pair Kd.heap_string Kd.heap_string)
theorem heapT : Kd.Heap k25 := Kd.heap_fix (fun d hd => Kd.heap_iso _ (Kd.heap_pair Kd.heap_string (Kd.heap_pair Kd.heap_string (Kd.heap_pair Kd.heap_string (Kd.heap_pair (Kd.heap_slice _ heapA) (Kd.heap_slice _ hd))))))
end Go.Proofs.Ytloocmeckpoflaa.OpenT
