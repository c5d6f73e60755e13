import Derived.Test.YtleofbidijbahaaYD0
import Derived.Test.YtleofbidijbahaaYD5
import Derived.Test.YtleofbidijbahaaYD7
import Derived.Test.YtleofbidijbahaaYD19
import Derived.Test.YtleofbidijbahaaYD17
import Derived.Test.YtleofbidijbahaaYD29
import Derived.Test.YtleofbidijbahaaYD30
import Derived.Test.YtleofbidijbahaaYD31
import Derived.Test.YtleofbidijbahaaYD32
import Derived.Test.YtleofbidijbahaaYD33
namespace Go.Proofs.Ytleofbidijbahaa.D
open Go.RowKit Go.Proofs.YtleofbidijbahaaW.PrintWords Go.Proofs.YtleofbidijbahaaW.PrintLast Go.Proofs.YtleofbidijbahaaW.PrintMore
attribute [local go_sem] max2_int min2_int max_two min_two max_three min_three max_four min_four   -- for this text's walks alone
set_option linter.unusedVariables false
set_option linter.unusedSimpArgs false
theorem badAttrs_rises : ∀ (l : List S68) (lst : ByteArray), badAttrs lst l = false → RisesA l ∧ (∀ x ∈ l, ltB lst x.f0 = true ∧ lettersB x.f0 = true ∧ x.f1.size ≤ 128)
 | [], _, _ => ⟨fun i j hi => absurd hi (by simp), fun x hx => by cases hx⟩
 | a :: l, lst, h => by
  rw [badAttrs, Bool.or_eq_false_iff] at h
  obtain ⟨h1, h2⟩ := h
  obtain ⟨hR, hA⟩ := badAttrs_rises l a.f0 h2
  unfold bad1 at h1
  rw [Bool.or_eq_false_iff, Bool.or_eq_false_iff, Bool.or_eq_false_iff] at h1
  obtain ⟨⟨h3, h4⟩, h5, h6⟩ := h1
  have ha : ltB lst a.f0 = true := ltB_total h3 (by simpa using h4)
  refine ⟨fun i j hi hj hij => ?_, fun x hx => ?_⟩
  ·
   cases j with
   | zero => omega
   | succ j =>
    cases i with
    | zero => exact (hA _ (List.getElem_mem _)).1
    | succ i => exact hR i j (by simpa using hi) (by simpa using hj) (by omega)
  ·
   rcases List.mem_cons.1 hx with rfl | hx
   ·
    exact ⟨ha, by simpa using h5, by simpa using h6⟩
   ·
    exact ⟨ltB_trans ha (hA x hx).1, (hA x hx).2⟩
theorem badAttrs_of : ∀ (l : List S68) (lst : ByteArray), RisesA l → (∀ x ∈ l, ltB lst x.f0 = true ∧ lettersB x.f0 = true ∧ x.f1.size ≤ 128) → badAttrs lst l = false
 | [], _, _, _ => rfl
 | a :: l, lst, hR, hA => by
  obtain ⟨h1, h2, h3⟩ := hA a (List.mem_cons_self ..)
  rw [badAttrs, Bool.or_eq_false_iff]
  refine ⟨?_, badAttrs_of l a.f0 (fun i j hi hj hij => hR (i + 1) (j + 1) (by simpa using hi) (by simpa using hj) (by omega)) (fun x hx => ⟨?_, (hA x (List.mem_cons_of_mem _ hx)).2⟩)⟩
  ·
   unfold bad1
   have h4 : Op.bytesLess a.f0.toList lst.toList = false := by
    cases h : Op.bytesLess a.f0.toList lst.toList with
    | false => rfl
    | true => have := ltB_trans h1 h; rw [ltB_irr] at this; cases this
   have h5 : (a.f0.toList == lst.toList) = false := by
    rw [beq_eq_false_iff_ne]
    intro he
    unfold ltB at h1
    rw [he, bytesLess_irr] at h1
    cases h1
   rw [h4, h5, h2]
   simpa using h3
  ·
   obtain ⟨i, hi, rfl⟩ := List.mem_iff_getElem.1 hx
   exact hR 0 (i + 1) (by simp) (by simpa using hi) (by omega)
theorem plain_attrs {a0 a1 a2 : ByteArray} {l : List S68} (h : plainB a0 a1 a2 l = true) : RisesA l ∧ l.length ≤ 16 := by
 unfold plainB at h
 split at h
 ·
  simp only [Bool.and_eq_true, decide_eq_true_eq] at h
  have : l = [] := List.eq_nil_of_length_eq_zero h.2.2
  rw [this]
  exact ⟨fun i j hi => absurd hi (by simp), by simp⟩
 ·
  simp only [Bool.and_eq_true, decide_eq_true_eq, Bool.not_eq_true'] at h
  exact ⟨(badAttrs_rises _ _ h.2.2.2.2).1, h.2.2.2.1⟩
theorem nodup_len_ : ∀ (l m : List Int), l.Nodup → (∀ x ∈ l, x ∈ m) → l.length ≤ m.length
 | [], _, _, _ => Nat.zero_le _
 | a :: l, m, h, hs => by
  obtain ⟨h1, h2⟩ := List.nodup_cons.1 h
  have ha := hs a (List.mem_cons_self ..)
  have := nodup_len_ l (m.erase a) h2 (fun x hx => (List.mem_erase_of_ne (fun (e : x = a) => h1 (e ▸ hx))).2 (hs x (List.mem_cons_of_mem _ hx)))
  rw [List.length_erase_of_mem ha] at this
  have h3 : 0 < m.length := List.length_pos_of_mem ha
  rw [List.length_cons]
  omega
theorem rises_map {ns : List Nd} (hR : Rises ns) {u : Nd → Nd} (hu : ∀ z, (u z).f0 = z.f0) : Rises (ns.map u) := by
 intro i j hi hj hij
 rw [List.getElem_map, List.getElem_map, hu, hu]
 exact hR i j (by simpa using hi) (by simpa using hj) hij
theorem set_map {ns : List Nd} (hR : Rises ns) {i : Nat} (hi : i < ns.length) (u : Nd → Nd) : ns.set i (u ns[i]) = ns.map (fun z => if z.f0 = ns[i].f0 then u z else z) := by
 refine List.ext_getElem (by simp) (fun j h1 h2 => ?_)
 rw [List.getElem_set, List.getElem_map]
 by_cases hij : i = j
 ·
  subst hij
  simp
 ·
  rw [if_neg hij, if_neg]
  intro he
  have hj : j < ns.length := by simpa using h2
  rcases Nat.lt_or_gt_of_ne hij with h | h
  ·
   have := hR i j hi hj h; omega
  ·
   have := hR j i hj hi h; omega
def cutN (id pid : Int) (z : Nd) : Nd := { z with f1 := if z.f0 = id then 0 else z.f1, f6 := if z.f0 = pid then z.f6.filter (fun k => k != id) else z.f6 }
def lessN (id pid : Int) (z : Nd) : Nd := if z.f0 = pid then { z with f6 := z.f6.filter (fun k => k != id) } else z
theorem lessN_f0 (id pid : Int) (z : Nd) : (lessN id pid z).f0 = z.f0 := by unfold lessN; split <;> rfl
theorem offF_map {ns : List Nd} (hR : Rises ns) {i : Nat} (hi : i < ns.length) : offF ns i = ns.map (cutN ns[i].f0 ns[i].f1) := by
 unfold offF
 rw [rd_lt hi]
 cases hn : nodeOf ns ns[i].f1 with
 | none =>
  show ns.set i { rd_T63 ns (i : Int) with f1 := 0 } = _
  rw [rd_lt hi, set_map hR hi (fun z => { z with f1 := 0 })]
  refine List.map_congr_left (fun z hz => ?_)
  have := (nodeOf_no hR).1 hn z hz
  unfold cutN
  rw [if_neg this]
  by_cases h : z.f0 = ns[i].f0
  ·
   rw [if_pos h, if_pos h]
  ·
   rw [if_neg h, if_neg h]
 | some y =>
  obtain ⟨hL, hy, hy0⟩ := nodeOf_some hn
  rw [rd_lt hL] at hy
  show (ns.set (lowP ns ns[i].f1) { y with f6 := y.f6.filter (fun k => k != ns[i].f0) }).set i { rd_T63 (ns.set (lowP ns ns[i].f1) { y with f6 := y.f6.filter (fun k => k != ns[i].f0) }) (i : Int) with f1 := 0 } = _
  have e1 : ns.set (lowP ns ns[i].f1) { y with f6 := y.f6.filter (fun k => k != ns[i].f0) } = ns.map (lessN ns[i].f0 ns[i].f1) := by
   have := set_map hR hL (fun z => { z with f6 := z.f6.filter (fun k => k != ns[i].f0) })
   rw [hy] at this
   rw [this, hy0]
   rfl
  rw [e1]
  have hR1 := rises_map hR (lessN_f0 ns[i].f0 ns[i].f1)
  have hi1 : i < (ns.map (lessN ns[i].f0 ns[i].f1)).length := by simpa using hi
  have h1 : (ns.map (lessN ns[i].f0 ns[i].f1))[i].f0 = ns[i].f0 := by rw [List.getElem_map]; exact lessN_f0 _ _ _
  rw [rd_lt hi1, set_map hR1 hi1 (fun z => { z with f1 := 0 }), h1, List.map_map]
  refine List.map_congr_left (fun z hz => ?_)
  show (if (lessN ns[i].f0 ns[i].f1 z).f0 = ns[i].f0 then ({ lessN ns[i].f0 ns[i].f1 z with f1 := 0 } : Nd) else lessN ns[i].f0 ns[i].f1 z) = _
  rw [lessN_f0]
  unfold cutN lessN
  by_cases h2 : z.f0 = ns[i].f1
  ·
   by_cases h3 : z.f0 = ns[i].f0
   ·
    simp only [if_pos h2, if_pos h3]
   ·
    simp only [if_pos h2, if_neg h3]
  ·
   by_cases h3 : z.f0 = ns[i].f0
   ·
    simp only [if_neg h2, if_pos h3]
   ·
    simp only [if_neg h2, if_neg h3]
theorem nodup_filter_ {p : Int → Bool} {l : List Int} (h : l.Nodup) : (l.filter p).Nodup := List.Nodup.sublist List.filter_sublist h
theorem off_valid {ns : List Nd} {r nx : Int} (h : ValidD ns r nx) {x : Nd} (hx : x ∈ ns) : ValidD (ns.map (cutN x.f0 x.f1)) r nx := by
 have hu : ∀ z, (cutN x.f0 x.f1 z).f0 = z.f0 := fun _ => rfl
 refine ⟨h.nx1, h.nx2, by rw [List.length_map]; exact h.len, rises_map h.rises hu, ?_, ?_, ?_, ?_, ?_, ?_, ?_, ?_, ?_⟩
 ·
  intro y hy; obtain ⟨z, hz, rfl⟩ := List.mem_map.1 hy; exact h.ids z hz
 ·
  intro y hy; obtain ⟨z, hz, rfl⟩ := List.mem_map.1 hy; exact h.plain z hz
 ·
  intro y hy; obtain ⟨z, hz, rfl⟩ := List.mem_map.1 hy
  show (if z.f0 = x.f1 then z.f6.filter (fun k => k != x.f0) else z.f6).length ≤ 32
  split
  ·
   exact Nat.le_trans (List.length_filter_le _ _) (h.few z hz)
  ·
   exact h.few z hz
 ·
  intro y hy; obtain ⟨z, hz, rfl⟩ := List.mem_map.1 hy
  intro ht
  show (if z.f0 = x.f1 then z.f6.filter (fun k => k != x.f0) else z.f6) = []
  rw [h.text z hz ht]
  split <;> rfl
 ·
  intro y hy; obtain ⟨z, hz, rfl⟩ := List.mem_map.1 hy
  show (if z.f0 = x.f1 then z.f6.filter (fun k => k != x.f0) else z.f6).Nodup
  split
  ·
   exact nodup_filter_ (h.once z hz)
  ·
   exact h.once z hz
 ·
  intro y hy; obtain ⟨z, hz, rfl⟩ := List.mem_map.1 hy
  intro k hk
  have hk' : k ∈ (if z.f0 = x.f1 then z.f6.filter (fun k => k != x.f0) else z.f6) := hk
  have hkz : k ∈ z.f6 ∧ (z.f0 = x.f1 → k ≠ x.f0) := by
   split at hk'
   ·
    rw [List.mem_filter] at hk'; exact ⟨hk'.1, fun _ => by simpa using hk'.2⟩
   ·
    rename_i hne; exact ⟨hk', fun he => absurd he hne⟩
  obtain ⟨q, hq, hq0, hq1⟩ := h.kids z hz k hkz.1
  refine ⟨cutN x.f0 x.f1 q, List.mem_map_of_mem hq, hq0, ?_⟩
  show (if q.f0 = x.f0 then 0 else q.f1) = z.f0
  rw [if_neg]
  ·
   exact hq1
  ·
   intro he
   have := rises_inj h.rises hq hx he
   rw [this] at hq1
   exact hkz.2 hq1.symm (by rw [← hq0, he])
 ·
  intro y hy; obtain ⟨z, hz, rfl⟩ := List.mem_map.1 hy
  intro h1
  have h2 : (if z.f0 = x.f0 then 0 else z.f1) ≠ 0 := h1
  by_cases he : z.f0 = x.f0
  ·
   rw [if_pos he] at h2; exact absurd rfl h2
  ·
   rw [if_neg he] at h2
   obtain ⟨p, hp, hp0, hk⟩ := h.home z hz h2
   refine ⟨cutN x.f0 x.f1 p, List.mem_map_of_mem hp, ?_, ?_⟩
   ·
    show p.f0 = (if z.f0 = x.f0 then 0 else z.f1)
    rw [if_neg he]; exact hp0
   ·
    show z.f0 ∈ (if p.f0 = x.f1 then p.f6.filter (fun k => k != x.f0) else p.f6)
    split
    ·
     rw [List.mem_filter]; exact ⟨hk, by simpa using he⟩
    ·
     exact hk
 ·
  obtain ⟨d, hd⟩ := h.rank
  refine ⟨d, fun y hy => ?_⟩
  obtain ⟨z, hz, rfl⟩ := List.mem_map.1 hy
  show (if z.f0 = x.f0 then 0 else z.f1) ≠ 0 → d (if z.f0 = x.f0 then 0 else z.f1) < d z.f0
  split
  ·
   intro h; exact absurd rfl h
  ·
   exact hd z hz
 ·
  rcases h.root with h1 | ⟨y, hy, hy0, ht, hp⟩
  ·
   exact .inl h1
  ·
   refine .inr ⟨cutN x.f0 x.f1 y, List.mem_map_of_mem hy, hy0, ht, ?_⟩
   show (if y.f0 = x.f0 then 0 else y.f1) = 0
   rw [hp]
   split <;> rfl
structure GoneInv (ns : List Nd) (id : Int) (q g : List Int) : Prop where
 once : (q ++ g).Nodup
 node : ∀ z ∈ q ++ g, ∃ x ∈ ns, x.f0 = z
 up : ∀ x ∈ ns, x.f0 ∈ q ++ g → x.f0 = id ∨ x.f1 ∈ g
 down : ∀ x ∈ ns, x.f0 ∈ g → ∀ k ∈ x.f6, k ∈ q ++ g
theorem GoneInv.step {ns : List Nd} {r nx id x : Int} {q g : List Int} {y : Nd} (h : ValidD ns r nx) (hid : ∀ x ∈ ns, x.f0 = id → x.f1 = 0) (hI : GoneInv ns id (x :: q) g) (hy : y ∈ ns) (hy0 : y.f0 = x) : GoneInv ns id (q ++ y.f6) (x :: g) := by
 have hxg : x ∉ g := fun hm => by
  have := hI.once
  rw [List.cons_append, List.nodup_cons] at this
  exact this.1 (List.mem_append_right _ hm)
 have hkq : ∀ z ∈ y.f6, z ∉ x :: q ++ g := by
  intro z hz hm
  obtain ⟨v, hv, hv0, hv1⟩ := h.kids y hy z hz
  rcases hI.up v hv (hv0 ▸ hm) with he | hp
  ·
   have := hid v hv he
   rw [this] at hv1
   have := (h.ids y hy).1
   omega
  ·
   rw [hv1, hy0] at hp
   exact hxg hp
 have ho := hI.once
 rw [List.cons_append, List.nodup_cons, List.nodup_append] at ho
 obtain ⟨ho1, ho2, ho3, ho4⟩ := ho
 refine ⟨?_, fun z hz => ?_, fun v hv hm => ?_, fun v hv hm k' hk' => ?_⟩
 ·
  rw [List.nodup_append, List.nodup_append]
  refine ⟨⟨ho2, h.once y hy, fun a ha b hb he => hkq b hb (by rw [← he]; simp [ha])⟩, List.nodup_cons.2 ⟨hxg, ho3⟩, fun a ha b hb he => ?_⟩
  subst he
  rcases List.mem_append.1 ha with ha | ha
  ·
   rcases List.mem_cons.1 hb with rfl | hb
   ·
    exact ho1 (List.mem_append_left _ ha)
   ·
    exact ho4 a ha a hb rfl
  ·
   refine hkq a ha ?_
   rcases List.mem_cons.1 hb with rfl | hb
   ·
    simp
   ·
    simp [hb]
 ·
  rcases List.mem_append.1 hz with hz | hz
  ·
   rcases List.mem_append.1 hz with hz | hz
   ·
    exact hI.node z (by simp [hz])
   ·
    obtain ⟨v, hv, hv0, _⟩ := h.kids y hy z hz
    exact ⟨v, hv, hv0⟩
  ·
   rcases List.mem_cons.1 hz with rfl | hz
   ·
    exact ⟨y, hy, hy0⟩
   ·
    exact hI.node z (by simp [hz])
 ·
  have hcase : v.f0 ∈ x :: q ++ g ∨ v.f0 ∈ y.f6 := by
   simp only [List.mem_append, List.mem_cons] at hm ⊢
   rcases hm with (hm | hm) | hm | hm
   ·
    exact .inl (.inl (.inr hm))
   ·
    exact .inr hm
   ·
    exact .inl (.inl (.inl hm))
   ·
    exact .inl (.inr hm)
  rcases hcase with hc | hc
  ·
   rcases hI.up v hv hc with he | hp
   ·
    exact .inl he
   ·
    exact .inr (List.mem_cons_of_mem _ hp)
  ·
   obtain ⟨v', hv', hv0, hv1⟩ := h.kids y hy _ hc
   have := rises_inj h.rises hv' hv hv0
   subst this
   exact .inr (by rw [hv1, hy0]; exact List.mem_cons_self ..)
 ·
  rcases List.mem_cons.1 hm with he | hm
  ·
   have := rises_inj h.rises hv hy (he.trans hy0.symm)
   subst this
   simp [hk']
  ·
   have := hI.down v hv hm k' hk'
   simp only [List.mem_append, List.mem_cons] at this ⊢
   rcases this with (h1 | h1) | h1
   ·
    exact .inr (.inl h1)
   ·
    exact .inl (.inl h1)
   ·
    exact .inr (.inr h1)
theorem GoneInv.len {ns : List Nd} {id : Int} {q g : List Int} (hI : GoneInv ns id q g) : q.length + g.length ≤ ns.length := by
 have h1 := nodup_len_ (q ++ g) (ns.map (·.f0)) hI.once (fun z hz => by obtain ⟨y, hy, h0⟩ := hI.node z hz; exact List.mem_map.2 ⟨y, hy, h0⟩)
 rw [List.length_map, List.length_append] at h1
 exact h1
theorem goneF_spec {ns : List Nd} {r nx id : Int} (h : ValidD ns r nx) (hid : ∀ x ∈ ns, x.f0 = id → x.f1 = 0) : ∀ (k : Nat) (q g : List Int), GoneInv ns id q g → ns.length ≤ g.length + k → ∃ G, goneF ns k q g = some G ∧ GoneInv ns id [] G ∧ ∀ z ∈ q ++ g, z ∈ G
 | k, [], g, hI, _ => ⟨g, by cases k <;> rfl, hI, fun z hz => hz⟩
 | 0, x :: q, g, hI, hle => by
  exfalso
  have h1 := hI.len
  rw [List.length_cons] at h1
  omega
 | k + 1, x :: q, g, hI, hle => by
  obtain ⟨y, hy, hy0⟩ := hI.node x (by simp)
  rw [goneF, (nodeOf_iff h.rises).2 ⟨hy, hy0⟩]
  have hN := hI.step h hid hy hy0
  have hlen := hN.len
  have := h.len
  show ∃ G, (if 999999 < (q ++ y.f6).length then none else goneF ns k (q ++ y.f6) (x :: g)) = some G ∧ _
  rw [if_neg (by omega)]
  obtain ⟨G, hG, hGI, hGm⟩ := goneF_spec h hid k (q ++ y.f6) (x :: g) hN (by rw [List.length_cons]; omega)
  refine ⟨G, hG, hGI, fun z hz => hGm z ?_⟩
  simp only [List.mem_append, List.mem_cons] at hz ⊢
  rcases hz with (hz | hz) | hz
  ·
   exact .inr (.inl hz)
  ·
   exact .inl (.inl hz)
  ·
   exact .inr (.inr hz)
theorem goneOf_spec {ns : List Nd} {r nx : Int} (h : ValidD ns r nx) {i : Nat} (hi : i < ns.length) : ∃ G, goneOf ns i = some G ∧ ns[i].f0 ∈ G ∧ GoneInv (ns.map (cutN ns[i].f0 ns[i].f1)) ns[i].f0 [] G := by
 have hv := off_valid h (List.getElem_mem hi)
 have hi1 : i < (ns.map (cutN ns[i].f0 ns[i].f1)).length := by simpa using hi
 unfold goneOf
 rw [offF_map h.rises hi, rd_lt hi1, List.getElem_map]
 have hid : ∀ x ∈ ns.map (cutN ns[i].f0 ns[i].f1), x.f0 = ns[i].f0 → x.f1 = 0 := fun x hx he => by
  obtain ⟨z, hz, rfl⟩ := List.mem_map.1 hx
  show (if z.f0 = ns[i].f0 then 0 else z.f1) = 0
  exact if_pos he
 obtain ⟨G, hG, hI, hm⟩ := goneF_spec hv hid 1000000 [ns[i].f0] [] ⟨by simp, fun z hz => by simp at hz; exact ⟨cutN ns[i].f0 ns[i].f1 ns[i], List.mem_map_of_mem (List.getElem_mem hi), hz.symm⟩, fun x hx hm => by simp at hm; exact .inl hm, fun x _ hm => by cases hm⟩ (by rw [List.length_map]; have := h.len; omega)
 exact ⟨G, hG, hm _ (by simp), hI⟩
theorem nodup_count_ : ∀ (l : List Int) (a : Int), l.Nodup → a ∈ l → (l.filter (fun k => k != a)).length + 1 = l.length
 | [], _, _, h => by cases h
 | b :: l, a, hn, hm => by
  obtain ⟨h1, h2⟩ := List.nodup_cons.1 hn
  by_cases hb : b = a
  ·
   subst hb
   rw [List.filter_cons_of_neg (by simp), List.filter_eq_self.2 (fun x hx => by simp; intro e; exact h1 (e ▸ hx)), List.length_cons]
  ·
   rw [List.filter_cons_of_pos (by simpa using hb), List.length_cons, List.length_cons, nodup_count_ l a h2 ((List.mem_cons.1 hm).resolve_left (fun e => hb e.symm))]
theorem fit_of_valid {ns : List Nd} {r nx : Int} (h : ValidD ns r nx) (p : S45) : Fit ⟨ns, r, nx⟩ p := by
 have hn1 := h.nx1
 have hn2 := h.nx2
 have hoff : ∀ i, ∀ y ∈ offF ns i, ∃ z ∈ ns, z.f0 = y.f0 := by
  intro i y hy
  by_cases hi : i < ns.length
  ·
   rw [offF_map h.rises hi] at hy
   obtain ⟨z, hz, rfl⟩ := List.mem_map.1 hy
   exact ⟨z, hz, rfl⟩
  ·
   have hz : (rd_T63 ns (i : Int)) = z63 := by
    unfold rd_T63
    rw [Int.toNat_natCast, List.getD_eq_getElem?_getD, List.getElem?_eq_none (by omega)]
    rfl
   have hno : nodeOf ns (0 : Int) = none := (nodeOf_no h.rises).2 (fun y hy he => by have := (h.ids y hy).1; omega)
   unfold offF at hy
   rw [hz] at hy
   have hy2 : y ∈ (match nodeOf ns (0 : Int) with | none => ns | some y => ns.set (lowP ns (0 : Int)) { y with f6 := y.f6.filter (fun k => k != (0 : Int)) }).set i { rd_T63 (match nodeOf ns (0 : Int) with | none => ns | some y => ns.set (lowP ns (0 : Int)) { y with f6 := y.f6.filter (fun k => k != (0 : Int)) }) (i : Int) with f1 := 0 } := hy
   rw [hno] at hy2
   have hy3 : y ∈ ns.set i { rd_T63 ns (i : Int) with f1 := 0 } := hy2
   rw [List.set_eq_of_length_le (by omega)] at hy3
   exact ⟨y, hy3, rfl⟩
 refine ⟨fun y hy => (h.ids y hy).2, by show (0 : Int) ≤ nx; omega, ?_, fun i y hy => ?_, ?_, ?_, fun x hx => ⟨(plain_attrs (h.plain x hx)).1, Nat.le_trans (plain_attrs (h.plain x hx)).2 (by omega)⟩⟩
 ·
  show InI r
  rcases h.root with h1 | ⟨y, hy, hy0, _⟩
  ·
   rw [h1]; exact ⟨by omega, by omega⟩
  ·
   have := h.ids y hy
   rw [← hy0]
   exact ⟨by omega, by omega⟩
 ·
  obtain ⟨z, hz, hz0⟩ := hoff i y hy
  have := h.ids z hz
  rw [← hz0]
  exact ⟨by omega, by omega⟩
 ·
  intro x y hx hy h0 h1
  replace hx : nodeOf ns p.f1 = some x := hx
  replace hy : nodeOf ns p.f2 = some y := hy
  obtain ⟨hL1, hr1, hx0⟩ := nodeOf_some hx
  obtain ⟨hL2, hr2, hy0⟩ := nodeOf_some hy
  have hxm := (nodeOf_mem hx).1
  have hym := (nodeOf_mem hy).1
  rw [rd_lt hL1] at hr1
  rw [rd_lt hL2] at hr2
  show p.f3.toNat ≤ (rd_T63 (offF ns (lowP ns p.f1)) (lowP ns p.f2 : Int)).f6.length ∧ (rd_T63 (offF ns (lowP ns p.f1)) (lowP ns p.f2 : Int)).f6.length < 1000000000
  have hL3 : lowP ns p.f2 < (ns.map (cutN ns[lowP ns p.f1].f0 ns[lowP ns p.f1].f1)).length := by simpa using hL2
  rw [offF_map h.rises hL1, rd_lt hL3, List.getElem_map]
  simp only [hr1, hr2]
  show p.f3.toNat ≤ (if y.f0 = x.f1 then y.f6.filter (fun k => k != x.f0) else y.f6).length ∧ (if y.f0 = x.f1 then y.f6.filter (fun k => k != x.f0) else y.f6).length < 1000000000
  have hfw := h.few y hym
  unfold others at h1
  by_cases he : y.f0 = x.f1
  ·
   rw [if_pos he]
   rw [if_pos (show x.f1 = p.f2 by rw [← he, hy0])] at h1
   have hne : x.f1 ≠ 0 := by have := (h.ids y hym).1; omega
   obtain ⟨q, hq, hq0, hk⟩ := h.home x hxm hne
   have := rises_inj h.rises hq hym (hq0.trans he.symm)
   subst this
   have hc := nodup_count_ q.f6 x.f0 (h.once q hq) hk
   omega
  ·
   rw [if_neg he]
   rw [if_neg (fun h2 => he (by rw [hy0, h2]))] at h1
   omega
 ·
  intro i hi
  obtain ⟨G, hG, _⟩ := goneOf_spec h hi
  exact ⟨G, hG⟩
end Go.Proofs.Ytleofbidijbahaa.D
