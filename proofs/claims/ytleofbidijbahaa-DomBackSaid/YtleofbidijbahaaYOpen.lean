/- What the print's words and the walks are, as far as this claim names them. -/
import Derived.Test.YtleofbidijbahaaRows
import Derived.Test.YtleofbidijbahaaYWWords
import Derived.Deep.Slices
import Derived.ChangeArms
import Derived.Lib.SmallJoins
import Derived.SizedLaws
namespace Go.Proofs.Ytleofbidijbahaa.Open
open Go.ChangeShapes Go.WideShapes Go.RowKit Go.Proofs.YtleofbidijbahaaW.PrintWords
set_option linter.unusedVariables false
def Opens {α : Type} (P : Program) (n : Nat) (k : Kd α) (t : TypeId) (Wf Fit : α → Prop) (bk : α → Nat) : Prop :=
 ∀ (H : Type) (enc : TypeId × Value → H) (w : World) (base : Nat) (sp : Nat → Bool) (held : Bool) (m : Nat), m ≤ n → ∀ (cs : List Value) (d : DataW H) (ps : List MemPlace), DataW.trod enc P w base sp held m t cs = some (d, ps) →
  ∃ x, k.K w x cs ∧ Wf x ∧ ((∀ z ∈ DataW.weights P t d, z ≤ reachBytes) → Fit x) ∧ bk x ≤ Rows.uptoBulk d
def OpensF {α : Type} (P : Program) (n : Nat) (k : Kd α) (fs : List Field) (off : Nat) (Wf Fit : α → Prop) (bk : α → Nat) : Prop :=
 ∀ (H : Type) (enc : TypeId × Value → H) (w : World) (base : Nat) (sp : Nat → Bool) (held : Bool) (m : Nat), m ≤ n → ∀ (cs : List Value) (xs : List (DataW H × List MemPlace)), xs.length = fs.length → off + k.sz ≤ cs.length →
  (∀ (i : Nat) (f : Field), fs[i]? = some f → DataW.trod enc P w base sp held m f.type ((cs.drop f.offset).take (P.cellsOf f.type)) = xs[i]?) →
  ∃ x, k.K w x ((cs.drop off).take k.sz) ∧ Wf x ∧ ((∀ z ∈ DataW.weightsEach P (fs.map (·.type)) (xs.map (·.1)), z ≤ reachBytes) → Fit x) ∧ bk x ≤ Rows.uptoBulkAll (xs.map (·.1))
section
variable {P : Program} {n : Nat}
theorem int {t : TypeId} {k : IntKind} (ht : P.underlying t = some (.int k)) : Opens P n (Kd.int k) t (fun x => (Lit.int k x).wf = true) (fun _ => True) (fun _ => 1) := by
 intro H enc w base sp held m hm cs d ps h
 obtain ⟨x, rfl, he, hw⟩ := DataW.trod_int ht h
 obtain ⟨rfl, rfl⟩ := Prod.mk.inj he
 exact ⟨x, rfl, hw, fun _ => trivial, by simp [Rows.uptoBulk]⟩
theorem bool {t : TypeId} (ht : P.underlying t = some .bool) : Opens P n Kd.bool t (fun _ => True) (fun _ => True) (fun _ => 1) := by
 intro H enc w base sp held m hm cs d ps h
 obtain ⟨x, rfl, he⟩ := DataW.trod_bool ht h
 obtain ⟨rfl, rfl⟩ := Prod.mk.inj he
 exact ⟨x, rfl, trivial, fun _ => trivial, by simp [Rows.uptoBulk]⟩
theorem string {t : TypeId} (ht : P.underlying t = some .string) : Opens P n Kd.string t (fun s => s.size ≤ maxLen) (fun s => s.size ≤ reachBytes) (fun s => s.size + 1) := by
 intro H enc w base sp held m hm cs d ps h
 obtain ⟨s, rfl, he, hs⟩ := DataW.trod_string ht h
 obtain ⟨rfl, rfl⟩ := Prod.mk.inj he
 have e : s.data.toList.length = s.size := by rw [Array.length_toList]; rfl
 refine ⟨s, rfl, hs, fun h => ?_, by simp [Rows.uptoBulk, e]⟩
 have := h s.data.toList.length (by simp [DataW.weights])
 omega
theorem one {α : Type} {a : Kd α} {f : Field} {off : Nat} {Wf Fit : α → Prop} {bk : α → Nat} (h : Opens P n a f.type Wf Fit bk) (ho : f.offset = off) (hc : P.cellsOf f.type = a.sz) : OpensF P n a [f] off Wf Fit bk := by
 intro H enc w base sp held m hm cs xs hl hlen hx
 match xs, hl with
 | [y], _ =>
  have h0 := hx 0 f rfl
  rw [ho, hc] at h0
  obtain ⟨x, hk, hw, hf, hb⟩ := h H enc w base sp held m hm _ y.1 y.2 h0
  refine ⟨x, hk, hw, fun hz => hf (fun z hm => hz z ?_), ?_⟩
  ·
   simp [DataW.weightsEach, hm]
  ·
   simp [Rows.uptoBulkAll]; exact hb
theorem cons {α β : Type} {a : Kd α} {b : Kd β} {f : Field} {fs : List Field} {off : Nat} {Wa Fa : α → Prop} {ba : α → Nat} {Wb Fb : β → Prop} {bb : β → Nat} (h : Opens P n a f.type Wa Fa ba) (ho : f.offset = off) (hc : P.cellsOf f.type = a.sz)
  (hr : OpensF P n b fs (off + a.sz) Wb Fb bb) : OpensF P n (Kd.pair a b) (f :: fs) off (fun x => Wa x.1 ∧ Wb x.2) (fun x => Fa x.1 ∧ Fb x.2) (fun x => ba x.1 + bb x.2) := by
 intro H enc w base sp held m hm cs xs hl hlen hx
 match xs, hl with
 | y :: ys, hl =>
  have h0 := hx 0 f rfl
  rw [ho, hc] at h0
  obtain ⟨x, hk, hw, hf, hb⟩ := h H enc w base sp held m hm _ y.1 y.2 h0
  have hlen' : off + (a.sz + b.sz) ≤ cs.length := hlen
  obtain ⟨x2, hk2, hw2, hf2, hb2⟩ := hr H enc w base sp held m hm cs ys (by simpa using hl) (by omega) (fun i g hg => by simpa using hx (i + 1) g (by simpa using hg))
  refine ⟨(x, x2), ⟨(cs.drop off).take a.sz, (cs.drop (off + a.sz)).take b.sz, ?_, hk, hk2⟩, ⟨hw, hw2⟩, fun hz => ⟨hf fun z hm => hz z ?_, hf2 fun z hm => hz z ?_⟩, ?_⟩
  ·
   show (cs.drop off).take (a.sz + b.sz) = _
   rw [List.take_add, List.drop_drop]
  ·
   simp [DataW.weightsEach, hm]
  ·
   simp only [List.map_cons, DataW.weightsEach, List.mem_append]
   exact .inr hm
  ·
   simp only [List.map_cons, Rows.uptoBulkAll]
   omega
theorem struct {α : Type} {k : Kd α} {t : TypeId} {fs : Array Field} {Wf Fit : α → Prop} {bk : α → Nat} (ht : P.underlying t = some (.struct fs)) (hc : P.cellsOf t = k.sz) (h : OpensF P n k fs.toList 0 Wf Fit bk) : Opens P (n + 1) k t Wf Fit (fun x => bk x + 1) := by
 intro H enc w base sp held m hm cs d ps hh
 obtain ⟨xs, m', rfl, he, hl, hlen, hx⟩ := DataW.trod_struct ht hh
 obtain ⟨rfl, rfl⟩ := Prod.mk.inj he
 obtain ⟨x, hk, hw, hf, hb⟩ := h H enc w base sp held m' (by omega) cs xs (by simpa using hlen) (by omega) (fun i f hf => hx i f (by simpa using hf))
 refine ⟨x, ?_, hw, fun hz => hf fun z hm => hz z ?_, ?_⟩
 ·
  have e : (cs.drop 0).take k.sz = cs := by rw [List.drop_zero, ← hc, ← hl, List.take_length]
  rwa [e] at hk
 ·
  simp only [DataW.weights, ht]
  exact hm
 ·
  simp only [Rows.uptoBulk]
  omega
theorem iso {α β : Type} {k : Kd α} {t : TypeId} {Wf Fit : α → Prop} {bk : α → Nat} (h : Opens P n k t Wf Fit bk) (f : β → α) (g : α → β) (hfg : ∀ x, f (g x) = x) : Opens P n (Kd.iso k f) t (fun x => Wf (f x)) (fun x => Fit (f x)) (fun x => bk (f x)) := by
 intro H enc w base sp held m hm cs d ps hh
 obtain ⟨x, a, b, c, e⟩ := h H enc w base sp held m hm cs d ps hh
 exact ⟨g x, by show k.K w (f (g x)) cs; rw [hfg]; exact a, by show Wf (f (g x)); rw [hfg]; exact b, by show _ → Fit (f (g x)); rw [hfg]; exact c, by show bk (f (g x)) ≤ _; rw [hfg]; exact e⟩
theorem list_of {α : Type} {p : Nat → α → Prop} : ∀ (n : Nat), (∀ i, i < n → ∃ x, p i x) → ∃ xs : List α, xs.length = n ∧ ∀ i x, xs[i]? = some x → p i x
 | 0, _ => ⟨[], rfl, fun i x h => by simp at h⟩
 | n + 1, h => by
  obtain ⟨xs, hl, hx⟩ := list_of n (fun i hi => h i (by omega))
  obtain ⟨x, hp⟩ := h n (by omega)
  refine ⟨xs ++ [x], by simp [hl], fun i y hy => ?_⟩
  by_cases hi : i < n
  ·
   rw [List.getElem?_append_left (by omega)] at hy
   exact hx i y hy
  ·
   rw [List.getElem?_append_right (by omega)] at hy
   have : i = n := by
    have := List.getElem?_eq_some_iff.1 hy
    obtain ⟨h1, _⟩ := this
    simp at h1
    omega
   subst this
   simp [hl] at hy
   subst hy
   exact hp
theorem bulk_sum {H α : Type} (bk : α → Nat) : ∀ (l : List (DataW H)) (xs : List α), xs.length = l.length → (∀ (i : Nat) (x : α) (d : DataW H), xs[i]? = some x → l[i]? = some d → bk x ≤ Rows.uptoBulk d) → (xs.map bk).sum ≤ Rows.uptoBulkAll l := by
 intro l
 induction l with
 | nil => intro xs h _; have : xs = [] := List.length_eq_zero_iff.1 h; subst this; simp
 | cons d l ih =>
  intro xs h hx
  match xs, h with
  | x :: xs, h =>
   have h1 := ih xs (by simpa using h) (fun i y e hy he => hx (i + 1) y e (by simpa using hy) (by simpa using he))
   have h2 := hx 0 x d rfl rfl
   simp only [List.map_cons, List.sum_cons, Rows.uptoBulkAll]
   omega
theorem weights_mem {H : Type} {e : TypeId} : ∀ (l : List (DataW H)) (i : Nat) (d : DataW H), l[i]? = some d → ∀ z ∈ DataW.weights P e d, z ∈ DataW.weightsAll P e l := by
 intro l
 induction l with
 | nil => intro i d h; simp at h
 | cons x l ih =>
  intro i d h z hz
  cases i with
  | zero => simp at h; subst h; simp [DataW.weightsAll, hz]
  | succ i => simp only [DataW.weightsAll, List.mem_append]; exact .inr (ih i d (by simpa using h) z hz)
theorem slice {α : Type} {k : Kd α} {t e : TypeId} {Wf Fit : α → Prop} {bk : α → Nat} (ht : P.underlying t = some (.slice e)) (hc : P.cellsOf e = k.sz) (h : Opens P n k e Wf Fit bk) :
  Opens P (n + 1) (Kd.slice e k) t (fun xs => ∀ x ∈ xs, Wf x) (fun xs => xs.length * P.bytesOf e ≤ reachBytes ∧ ∀ x ∈ xs, Fit x) (fun xs => (xs.map bk).sum + 1) := by
 intro H enc w base sp held m hm cs d ps hh
 rcases DataW.trod_slice ht hh with ⟨rfl, he⟩ | ⟨a, len, cap, elems, rest, m', rfl, rfl, he, hba, hlc, hcm, hle, hel, hsp, hns⟩
 ·
  obtain ⟨rfl, rfl⟩ := Prod.mk.inj he
  exact ⟨[], ⟨none, 0, rfl, Nat.le_refl _, rfl, by simp, fun h => absurd h (Nat.lt_irrefl 0)⟩, by simp, fun _ => ⟨by simp, by simp⟩, by simp [Rows.uptoBulk]⟩
 ·
  obtain ⟨rfl, rfl⟩ := Prod.mk.inj he
  have step : ∀ i, i < len → ∃ x, ∃ y cs', elems[i]? = some y ∧ w.cells? base (a.add (i * k.sz)) k.sz = some cs' ∧ k.K w x cs' ∧ Wf x ∧ ((∀ z ∈ DataW.weights P e y.1, z ≤ reachBytes) → Fit x) ∧ bk x ≤ Rows.uptoBulk y.1 := by
   intro i hi
   have hk := hel i hi
   rw [List.getElem?_eq_getElem (by omega), hc] at hk
   obtain ⟨cs', h1, h2⟩ := Option.bind_eq_some_iff.1 hk
   obtain ⟨x, b1, b2, b3, b4⟩ := h H enc w base sp held m' (by omega) cs' (elems[i]'(by omega)).1 (elems[i]'(by omega)).2 h2
   exact ⟨x, elems[i]'(by omega), cs', List.getElem?_eq_getElem (by omega), h1, b1, b2, b3, b4⟩
  obtain ⟨xs, hxl, hxs⟩ := list_of len step
  have mem : ∀ x ∈ xs, ∃ i : Nat, xs[i]? = some x := fun x hx => List.mem_iff_getElem?.1 hx
  refine ⟨xs, ⟨some a, cap, by rw [hxl], by omega, rfl, ?_, fun _ => ⟨a, rfl, fun j p hj => ?_⟩⟩, fun x hx => ?_, fun hz => ⟨?_, fun x hx => ?_⟩, ?_⟩
  ·
   rw [hxl]; exact Nat.le_trans hlc hcm
  ·
   obtain ⟨y, cs', _, hcl, hk, _⟩ := hxs j p hj
   obtain ⟨_, hl, hcell⟩ := World.cells?_some hcl
   refine ⟨cs', hl, hk, fun i u hu => ?_⟩
   have := hcell i (by obtain ⟨h1, _⟩ := List.getElem?_eq_some_iff.1 hu; omega)
   rw [Addr.add_add, hu] at this
   exact this
  ·
   obtain ⟨i, hi⟩ := mem x hx
   obtain ⟨_, _, _, _, _, hw, _⟩ := hxs i x hi
   exact hw
  ·
   have := hz ((elems.length + rest.length) * P.bytesOf e) (by simp [DataW.weights, ht])
   rw [hxl, ← hle]
   exact Nat.le_trans (Nat.mul_le_mul_right _ (by omega)) this
  ·
   obtain ⟨i, hi⟩ := mem x hx
   obtain ⟨y, cs', hy, _, _, _, hf, _⟩ := hxs i x hi
   refine hf fun z hm => hz z ?_
   simp only [DataW.weights, ht, List.mem_cons, List.mem_append]
   exact .inr (.inl (weights_mem _ i y.1 (by simp [hy]) z hm))
  ·
   simp only [Rows.uptoBulk]
   have := bulk_sum bk (elems.map (·.1)) xs (by simp [hxl, hle]) (fun i x d hx hd => by
    obtain ⟨y, _, hy, _, _, _, _, hb⟩ := hxs i x hx
    simp [hy] at hd
    subst hd
    exact hb)
   omega
theorem wf_i64 {x : Int} (h : (Lit.int .i64 x).wf = true) : -9223372036854775808 ≤ x ∧ x < 9223372036854775808 := by
 have e1 : IntKind.i64.min = -9223372036854775808 := by decide
 have e2 : IntKind.i64.max = 9223372036854775807 := by decide
 simp only [Lit.wf, e1, e2, Bool.and_eq_true, decide_eq_true_eq] at h
 omega
end
end Go.Proofs.Ytleofbidijbahaa.Open
