import Derived.Test.YtleofbidijbahaaYD0
import Derived.Test.YtleofbidijbahaaYD5
import Derived.Test.YtleofbidijbahaaYD7
import Derived.Test.YtleofbidijbahaaYD9
import Derived.Test.YtleofbidijbahaaYD11
import Derived.Test.YtleofbidijbahaaYD12
import Derived.Test.YtleofbidijbahaaYD19
import Derived.Test.YtleofbidijbahaaYD17
namespace Go.Proofs.Ytleofbidijbahaa.D
open Go.RowKit Go.Proofs.YtleofbidijbahaaW.PrintWords Go.Proofs.YtleofbidijbahaaW.PrintLast Go.Proofs.YtleofbidijbahaaW.PrintMore
attribute [local go_sem] max2_int min2_int max_two min_two max_three min_three max_four min_four   -- for this text's walks alone
set_option linter.unusedVariables false
set_option linter.unusedSimpArgs false
abbrev Nd := S63
theorem nodeOf_mem {ns : List Nd} {id : Int} {y : Nd} (h : nodeOf ns id = some y) : y ∈ ns ∧ y.f0 = id := by
 obtain ⟨hL, hr, h0⟩ := nodeOf_some h
 rw [rd_lt hL] at hr
 exact ⟨hr ▸ List.getElem_mem _, h0⟩
theorem nodeOf_at {ns : List Nd} (hR : Rises ns) {i : Nat} (hi : i < ns.length) : lowP ns ns[i].f0 = i ∧ nodeOf ns ns[i].f0 = some ns[i] := by
 have hl : lowP ns ns[i].f0 = i := lowP_at ns _ i (Nat.le_of_lt hi) (fun t h ht => hR t i h hi ht) (fun t h ht => by
  rcases Nat.lt_or_ge i t with h2 | h2
  ·
   exact Int.le_of_lt (hR i t hi h h2)
  ·
   obtain rfl : t = i := by omega
   exact Int.le_refl _)
 refine ⟨hl, ?_⟩
 unfold nodeOf
 rw [hl, rd_lt hi]
 simp [hi]
theorem nodeOf_iff {ns : List Nd} (hR : Rises ns) {id : Int} {y : Nd} : nodeOf ns id = some y ↔ y ∈ ns ∧ y.f0 = id := by
 refine ⟨nodeOf_mem, fun ⟨hm, h0⟩ => ?_⟩
 obtain ⟨i, hi, rfl⟩ := List.mem_iff_getElem.1 hm
 rw [← h0]
 exact (nodeOf_at hR hi).2
theorem nodeOf_no {ns : List Nd} (hR : Rises ns) {id : Int} : nodeOf ns id = none ↔ ∀ y ∈ ns, y.f0 ≠ id := by
 constructor
 ·
  intro h y hy h0
  have := (nodeOf_iff hR).2 ⟨hy, h0⟩
  rw [h] at this
  cases this
 ·
  intro h
  cases hn : nodeOf ns id with
  | none => rfl
  | some y => exact absurd (nodeOf_mem hn).2 (h y (nodeOf_mem hn).1)
theorem rises_inj {ns : List Nd} (hR : Rises ns) {x y : Nd} (hx : x ∈ ns) (hy : y ∈ ns) (h : x.f0 = y.f0) : x = y :=
 Option.some.inj (((nodeOf_iff hR).2 ⟨hx, h⟩).symm.trans ((nodeOf_iff hR).2 ⟨hy, rfl⟩))
theorem kidsB_iff {ns : List Nd} (hR : Rises ns) (id : Int) : ∀ (ks seen : List Int), kidsB ns id seen ks = true ↔ (∀ k ∈ ks, ∃ x ∈ ns, x.f0 = k ∧ x.f1 = id) ∧ ks.Nodup ∧ ∀ k ∈ ks, k ∉ seen
 | [], seen => by simp [kidsB]
 | k :: ks, seen => by
  rw [kidsB]
  cases hn : nodeOf ns k with
  | none =>
   have := (nodeOf_no hR).1 hn
   simp only [Bool.false_eq_true, false_iff]
   rintro ⟨h, _⟩
   obtain ⟨x, hx, h0, _⟩ := h k (List.mem_cons_self ..)
   exact this x hx h0
  | some x =>
   obtain ⟨hx, h0⟩ := nodeOf_mem hn
   have huq : ∀ z ∈ ns, z.f0 = k → z = x := fun z hz hz0 => Option.some.inj (((nodeOf_iff hR).2 ⟨hz, hz0⟩).symm.trans hn)
   show (if x.f1 = id ∧ seen.contains k = false then kidsB ns id (k :: seen) ks else false) = true ↔ _
   by_cases hc : x.f1 = id ∧ seen.contains k = false
   ·
    rw [if_pos hc, kidsB_iff hR id ks (k :: seen)]
    have hc2 : k ∉ seen := by simpa using hc.2
    constructor
    ·
     rintro ⟨h1, h2, h3⟩
     refine ⟨fun z hz => ?_, List.nodup_cons.2 ⟨fun hk => h3 k hk (List.mem_cons_self ..), h2⟩, fun z hz => ?_⟩
     ·
      rcases List.mem_cons.1 hz with rfl | hz
      ·
       exact ⟨x, hx, h0, hc.1⟩
      ·
       exact h1 z hz
     ·
      rcases List.mem_cons.1 hz with rfl | hz
      ·
       exact hc2
      ·
       exact fun h => h3 z hz (List.mem_cons_of_mem _ h)
    ·
     rintro ⟨h1, h2, h3⟩
     obtain ⟨h4, h5⟩ := List.nodup_cons.1 h2
     refine ⟨fun z hz => h1 z (List.mem_cons_of_mem _ hz), h5, fun z hz hm => ?_⟩
     rcases List.mem_cons.1 hm with rfl | hm
     ·
      exact h4 hz
     ·
      exact h3 z (List.mem_cons_of_mem _ hz) hm
   ·
    rw [if_neg hc]
    simp only [Bool.false_eq_true, false_iff]
    rintro ⟨h1, h2, h3⟩
    obtain ⟨z, hz, hz0, hz1⟩ := h1 k (List.mem_cons_self ..)
    rw [huq z hz hz0] at hz1
    exact hc ⟨hz1, by simpa using h3 k (List.mem_cons_self ..)⟩
theorem rootedF_zero (ns : List Nd) (k : Nat) : rootedF ns k 0 = true := by cases k <;> simp [rootedF]
theorem rootedF_mono (ns : List Nd) : ∀ (k : Nat) (p : Int), rootedF ns k p = true → rootedF ns (k + 1) p = true
 | 0, p, h => by
  have : p = 0 := by simpa [rootedF] using h
  rw [this, rootedF_zero]
 | k + 1, p, h => by
  rw [rootedF]
  by_cases hp : p = 0
  ·
   rw [if_pos hp]
  ·
   rw [if_neg hp]
   rw [rootedF, if_neg hp] at h
   cases hn : nodeOf ns p with
   | none => rw [hn] at h; exact h
   | some x => rw [hn] at h; exact rootedF_mono ns k x.f1 h
theorem countP_lt_ {α : Type} {p q : α → Bool} : ∀ {l : List α}, (∀ x ∈ l, p x = true → q x = true) → (∃ x ∈ l, q x = true ∧ p x = false) → l.countP p < l.countP q
 | [], _, h => by obtain ⟨x, hx, _⟩ := h; cases hx
 | a :: l, h1, h2 => by
  have hle : l.countP p ≤ l.countP q := List.countP_mono_left (fun x hx h => h1 x (List.mem_cons_of_mem _ hx) h)
  rw [List.countP_cons, List.countP_cons]
  obtain ⟨x, hx, hq, hp⟩ := h2
  rcases List.mem_cons.1 hx with rfl | hx
  ·
   simp only [hq, hp, if_true, Bool.false_eq_true, if_false]; omega
  ·
   have := countP_lt_ (fun x hx h => h1 x (List.mem_cons_of_mem _ hx) h) ⟨x, hx, hq, hp⟩
   have h3 := h1 a (List.mem_cons_self ..)
   cases hpa : p a with
   | false => cases q a <;> simp <;> omega
   | true => rw [h3 hpa]; simp; omega
theorem rank_of_rooted {ns : List Nd} (hR : Rises ns) (n : Nat) (h0 : ∀ y ∈ ns, y.f0 ≠ 0) (h : ∀ y ∈ ns, rootedF ns n y.f1 = true) : ∃ d : Int → Nat, ∀ y ∈ ns, y.f1 ≠ 0 → d y.f1 < d y.f0 := by
 refine ⟨fun id => (List.range (n + 2)).countP (fun k => !rootedF ns k id), fun y hy _ => ?_⟩
 have hy0 := h0 y hy
 have hn := (nodeOf_iff hR).2 ⟨hy, rfl⟩
 have hs : ∀ k, rootedF ns (k + 1) y.f0 = rootedF ns k y.f1 := fun k => by rw [rootedF, if_neg hy0, hn]
 have hz : rootedF ns 0 y.f0 = false := by rw [rootedF]; exact decide_eq_false hy0
 show (List.range (n + 2)).countP (fun k => !rootedF ns k y.f1) < (List.range (n + 2)).countP (fun k => !rootedF ns k y.f0)
 have e1 : (List.range (n + 2)).countP (fun k => !rootedF ns k y.f0) = (List.range (n + 1)).countP (fun k => !rootedF ns k y.f1) + 1 := by
  rw [List.range_succ_eq_map, List.countP_cons, List.countP_map, hz]
  simp only [Bool.not_false, if_true]
  congr 1
  refine List.countP_congr (fun k _ => ?_)
  simp only [Function.comp]
  rw [← hs k]
 have e2 : (List.range (n + 2)).countP (fun k => !rootedF ns k y.f1) = (List.range (n + 1)).countP (fun k => !rootedF ns k y.f1) := by
  rw [List.range_succ, List.countP_append, List.countP_singleton, rootedF_mono ns n y.f1 (h y hy)]
  rfl
 rw [e1, e2]
 omega
theorem rooted_of_rank {ns : List Nd} (hR : Rises ns) (hp : ∀ y ∈ ns, y.f1 ≠ 0 → ∃ p ∈ ns, p.f0 = y.f1) {d : Int → Nat} (hd : ∀ y ∈ ns, y.f1 ≠ 0 → d y.f1 < d y.f0) : ∀ y ∈ ns, rootedF ns ns.length y.f1 = true := by
 have key : ∀ (k : Nat) (p : Int), (p = 0 ∨ ((∃ x ∈ ns, x.f0 = p) ∧ ns.countP (fun z => decide (d z.f0 < d p)) < k)) → rootedF ns k p = true := by
  intro k
  induction k with
  | zero =>
   rintro p (rfl | ⟨_, h⟩)
   ·
    rfl
   ·
    omega
  | succ k ih =>
   intro p h
   by_cases h0 : p = 0
   ·
    rw [h0, rootedF_zero]
   ·
    obtain ⟨⟨x, hx, hx0⟩, hc⟩ := h.resolve_left h0
    rw [rootedF, if_neg h0, (nodeOf_iff hR).2 ⟨hx, hx0⟩]
    refine ih x.f1 ?_
    by_cases h1 : x.f1 = 0
    ·
     exact .inl h1
    ·
     obtain ⟨q, hq, hq0⟩ := hp x hx h1
     refine .inr ⟨⟨q, hq, hq0⟩, ?_⟩
     have hlt := hd x hx h1
     rw [hx0] at hlt
     have : ns.countP (fun z => decide (d z.f0 < d x.f1)) < ns.countP (fun z => decide (d z.f0 < d p)) :=
      countP_lt_ (fun z _ h => decide_eq_true (Nat.lt_trans (of_decide_eq_true h) hlt)) ⟨q, hq, decide_eq_true (by rw [hq0]; exact hlt), decide_eq_false (by rw [hq0]; omega)⟩
     omega
 intro y hy
 refine key _ _ ?_
 by_cases h1 : y.f1 = 0
 ·
  exact .inl h1
 ·
  obtain ⟨q, hq, hq0⟩ := hp y hy h1
  refine .inr ⟨⟨q, hq, hq0⟩, ?_⟩
  have := countP_lt_ (l := ns) (p := fun z => decide (d z.f0 < d y.f1)) (q := fun _ => true) (fun _ _ _ => rfl) ⟨q, hq, rfl, decide_eq_false (by rw [hq0]; omega)⟩
  rw [List.countP_true] at this
  exact this
structure ValidD (ns : List Nd) (r nx : Int) : Prop where
 nx1 : 1 ≤ nx
 nx2 : nx ≤ 2147483647
 len : ns.length ≤ 1024
 rises : Rises ns
 ids : ∀ y ∈ ns, 1 ≤ y.f0 ∧ y.f0 < nx
 plain : ∀ y ∈ ns, plainB y.f2 y.f3 y.f4 y.f5 = true
 few : ∀ y ∈ ns, y.f6.length ≤ 32
 text : ∀ y ∈ ns, y.f2.toList.isEmpty = true → y.f6 = []
 once : ∀ y ∈ ns, y.f6.Nodup
 kids : ∀ y ∈ ns, ∀ k ∈ y.f6, ∃ x ∈ ns, x.f0 = k ∧ x.f1 = y.f0
 home : ∀ y ∈ ns, y.f1 ≠ 0 → ∃ p ∈ ns, p.f0 = y.f1 ∧ y.f0 ∈ p.f6
 rank : ∃ d : Int → Nat, ∀ y ∈ ns, y.f1 ≠ 0 → d y.f1 < d y.f0
 root : r = 0 ∨ ∃ y ∈ ns, y.f0 = r ∧ y.f2.toList.isEmpty = false ∧ y.f1 = 0
theorem ascB_of {nx : Int} : ∀ (ns : List Nd) (last : Int), Rises ns → (∀ x ∈ ns, last < x.f0 ∧ x.f0 < nx) → ascB nx last ns = true
 | [], _, _, _ => rfl
 | a :: r, last, hR, h => by
  have ha := h a (List.mem_cons_self ..)
  rw [ascB, if_neg (by omega)]
  refine ascB_of r a.f0 (fun i j hi hj hij => hR (i + 1) (j + 1) (by simp; omega) (by simp; omega) (by omega)) (fun x hx => ⟨?_, (h x (List.mem_cons_of_mem _ hx)).2⟩)
  obtain ⟨i, hi, rfl⟩ := List.mem_iff_getElem.1 hx
  exact hR 0 (i + 1) (by simp) (by simp; omega) (by omega)
theorem checkE_valid {ns : List Nd} {r nx : Int} (h : checkE ns r nx = 0) : ValidD ns r nx := by
 unfold checkE at h
 split at h
 ·
  cases h
 rename_i h1
 split at h
 ·
  cases h
 rename_i h2
 split at h
 ·
  cases h
 rename_i h3
 split at h
 ·
  cases h
 rename_i h4
 obtain ⟨hR, hids⟩ := ascB_rises ns 0 (by simpa using h2)
 have hids1 : ∀ y ∈ ns, 1 ≤ y.f0 ∧ y.f0 < nx := fun y hy => by have := hids y hy; omega
 have hN : ∀ y ∈ ns, nodeB ns y = true := by
  have : ns.all (nodeB ns) = true := by simpa using h3
  exact List.all_eq_true.1 this
 have hB : ∀ y ∈ ns, (plainB y.f2 y.f3 y.f4 y.f5 = true ∧ y.f6.length ≤ 32 ∧ (y.f2.toList.isEmpty = true → y.f6 = [])) ∧ kidsB ns y.f0 [] y.f6 = true ∧ (y.f1 ≠ 0 → ∃ p, nodeOf ns y.f1 = some p ∧ y.f0 ∈ p.f6) ∧ rootedF ns ns.length y.f1 = true := by
  intro y hy
  have := hN y hy
  unfold nodeB at this
  split at this
  ·
   cases this
  rename_i g1
  split at this
  ·
   cases this
  rename_i g2
  have g3 : ¬ plainB y.f2 y.f3 y.f4 y.f5 = false := fun h => g1 (.inl h)
  refine ⟨⟨by simpa using g3, ?_, fun he => ?_⟩, by simpa using g2, ?_⟩
  ·
   rcases Nat.lt_or_ge 32 y.f6.length with h | h
   ·
    exact absurd (.inr (.inl h)) g1
   ·
    exact h
  ·
   cases hk : y.f6 with
   | nil => rfl
   | cons a l => exact absurd (.inr (.inr ⟨he, by rw [hk]; simp⟩)) g1
  ·
   split at this
   ·
    rename_i g4
    exact ⟨fun h => absurd g4 h, by rw [g4, rootedF_zero]⟩
   ·
    cases hn : nodeOf ns y.f1 with
    | none => rw [hn] at this; cases this
    | some p =>
     rw [hn] at this
     have this2 : (p.f6.contains y.f0 && rootedF ns ns.length y.f1) = true := this
     rw [Bool.and_eq_true] at this2
     exact ⟨fun _ => ⟨p, rfl, by simpa using this2.1⟩, this2.2⟩
 have hroot : rootB ns r = true := by simpa using h4
 refine ⟨by omega, by omega, by omega, hR, hids1, fun y hy => (hB y hy).1.1, fun y hy => (hB y hy).1.2.1, fun y hy => (hB y hy).1.2.2, fun y hy => ((kidsB_iff hR _ _ _).1 (hB y hy).2.1).2.1, fun y hy => ((kidsB_iff hR _ _ _).1 (hB y hy).2.1).1, fun y hy h => ?_, rank_of_rooted hR ns.length (fun y hy h => by have := hids1 y hy; omega) (fun y hy => (hB y hy).2.2.2), ?_⟩
 ·
  obtain ⟨p, hp, hk⟩ := (hB y hy).2.2.1 h
  exact ⟨p, (nodeOf_mem hp).1, (nodeOf_mem hp).2, hk⟩
 ·
  unfold rootB at hroot
  by_cases hr : r = 0
  ·
   exact .inl hr
  ·
   rw [if_neg hr] at hroot
   cases hn : nodeOf ns r with
   | none => rw [hn] at hroot; cases hroot
   | some y =>
    rw [hn] at hroot
    have h5 : (!y.f2.toList.isEmpty && decide (y.f1 = 0)) = true := hroot
    rw [Bool.and_eq_true] at h5
    exact .inr ⟨y, (nodeOf_mem hn).1, (nodeOf_mem hn).2, by simpa using h5.1, of_decide_eq_true h5.2⟩
theorem valid_checkE {ns : List Nd} {r nx : Int} (h : ValidD ns r nx) : checkE ns r nx = 0 := by
 have hR := h.rises
 unfold checkE
 have h1 := h.nx1
 have h2 := h.nx2
 have h3 := h.len
 rw [if_neg (by omega), if_neg (by rw [ascB_of ns 0 hR (fun x hx => by have := h.ids x hx; omega)]; simp)]
 obtain ⟨d, hd⟩ := h.rank
 have hrt := rooted_of_rank hR (fun y hy h1 => by obtain ⟨p, hp, h2, _⟩ := h.home y hy h1; exact ⟨p, hp, h2⟩) hd
 have hN : ns.all (nodeB ns) = true := by
  rw [List.all_eq_true]
  intro y hy
  unfold nodeB
  rw [if_neg, if_neg]
  ·
   split
   ·
    rfl
   ·
    rename_i h0
    obtain ⟨p, hp, hp0, hk⟩ := h.home y hy h0
    rw [(nodeOf_iff hR).2 ⟨hp, hp0⟩]
    show (p.f6.contains y.f0 && rootedF ns ns.length y.f1) = true
    rw [hrt y hy]
    simpa using hk
  ·
   rw [(kidsB_iff hR _ _ _).2 ⟨h.kids y hy, h.once y hy, fun _ _ h => by cases h⟩]
   simp
  ·
   rintro (h1 | h1 | h1)
   ·
    rw [h.plain y hy] at h1; cases h1
   ·
    have := h.few y hy; omega
   ·
    have := h.text y hy h1.1
    rw [this] at h1
    exact absurd h1.2 (by simp)
 rw [if_neg (by rw [hN]; simp), if_neg]
 have : rootB ns r = true := by
  unfold rootB
  split
  ·
   rfl
  ·
   rename_i hr
   obtain ⟨y, hy, hy0, ht, hp⟩ := h.root.resolve_left hr
   rw [(nodeOf_iff hR).2 ⟨hy, hy0⟩]
   show (!y.f2.toList.isEmpty && decide (y.f1 = 0)) = true
   rw [ht, hp]
   rfl
 rw [this]
 simp
end Go.Proofs.Ytleofbidijbahaa.D
