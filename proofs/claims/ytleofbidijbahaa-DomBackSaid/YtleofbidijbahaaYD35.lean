import Derived.Test.YtleofbidijbahaaYD0
import Derived.Test.YtleofbidijbahaaYD5
import Derived.Test.YtleofbidijbahaaYD7
import Derived.Test.YtleofbidijbahaaYD19
import Derived.Test.YtleofbidijbahaaYD17
import Derived.Test.YtleofbidijbahaaYD24
import Derived.Test.YtleofbidijbahaaYD27
import Derived.Test.YtleofbidijbahaaYD28
import Derived.Test.YtleofbidijbahaaYD29
import Derived.Test.YtleofbidijbahaaYD31
import Derived.Test.YtleofbidijbahaaYD32
import Derived.Test.YtleofbidijbahaaYD33
import Derived.Test.YtleofbidijbahaaYD34
namespace Go.Proofs.Ytleofbidijbahaa.D
open Go.RowKit Go.Proofs.YtleofbidijbahaaW.PrintWords Go.Proofs.YtleofbidijbahaaW.PrintLast Go.Proofs.YtleofbidijbahaaW.PrintMore
attribute [local go_sem] max2_int min2_int max_two min_two max_three min_three max_four min_four   -- for this text's walks alone
set_option linter.unusedVariables false
set_option linter.unusedSimpArgs false
theorem soft_valid {ns : List Nd} {r nx : Int} (h : ValidD ns r nx) (u : Nd → Nd) (hu : ∀ z ∈ ns, (u z).f0 = z.f0 ∧ (u z).f1 = z.f1 ∧ (u z).f2 = z.f2 ∧ (u z).f6 = z.f6 ∧ plainB (u z).f2 (u z).f3 (u z).f4 (u z).f5 = true) : ValidD (ns.map u) r nx := by
 refine ⟨h.nx1, h.nx2, by rw [List.length_map]; exact h.len, ?_, ?_, ?_, ?_, ?_, ?_, ?_, ?_, ?_, ?_⟩
 ·
  intro i j hi hj hij
  rw [List.getElem_map, List.getElem_map, (hu _ (List.getElem_mem _)).1, (hu _ (List.getElem_mem _)).1]
  exact h.rises i j (by simpa using hi) (by simpa using hj) hij
 ·
  intro y hy; obtain ⟨z, hz, rfl⟩ := List.mem_map.1 hy; rw [(hu z hz).1]; exact h.ids z hz
 ·
  intro y hy; obtain ⟨z, hz, rfl⟩ := List.mem_map.1 hy; exact (hu z hz).2.2.2.2
 ·
  intro y hy; obtain ⟨z, hz, rfl⟩ := List.mem_map.1 hy; rw [(hu z hz).2.2.2.1]; exact h.few z hz
 ·
  intro y hy; obtain ⟨z, hz, rfl⟩ := List.mem_map.1 hy; rw [(hu z hz).2.2.2.1, (hu z hz).2.2.1]; exact h.text z hz
 ·
  intro y hy; obtain ⟨z, hz, rfl⟩ := List.mem_map.1 hy; rw [(hu z hz).2.2.2.1]; exact h.once z hz
 ·
  intro y hy; obtain ⟨z, hz, rfl⟩ := List.mem_map.1 hy
  intro k hk
  rw [(hu z hz).2.2.2.1] at hk
  obtain ⟨q, hq, hq0, hq1⟩ := h.kids z hz k hk
  exact ⟨u q, List.mem_map_of_mem hq, by rw [(hu q hq).1]; exact hq0, by rw [(hu q hq).2.1, (hu z hz).1]; exact hq1⟩
 ·
  intro y hy; obtain ⟨z, hz, rfl⟩ := List.mem_map.1 hy
  intro h1
  rw [(hu z hz).2.1] at h1 ⊢
  obtain ⟨p, hp, hp0, hk⟩ := h.home z hz h1
  exact ⟨u p, List.mem_map_of_mem hp, by rw [(hu p hp).1]; exact hp0, by rw [(hu p hp).2.2.2.1, (hu z hz).1]; exact hk⟩
 ·
  obtain ⟨d, hd⟩ := h.rank
  refine ⟨d, fun y hy => ?_⟩
  obtain ⟨z, hz, rfl⟩ := List.mem_map.1 hy
  rw [(hu z hz).1, (hu z hz).2.1]
  exact hd z hz
 ·
  rcases h.root with h1 | ⟨y, hy, hy0, ht, hp⟩
  ·
   exact .inl h1
  ·
   exact .inr ⟨u y, List.mem_map_of_mem hy, by rw [(hu y hy).1]; exact hy0, by rw [(hu y hy).2.2.1]; exact ht, by rw [(hu y hy).2.1]; exact hp⟩
theorem set_valid {ns : List Nd} {r nx : Int} (h : ValidD ns r nx) {i : Nat} (hi : i < ns.length) (y : Nd) (h0 : y.f0 = ns[i].f0) (h1 : y.f1 = ns[i].f1) (h2 : y.f2 = ns[i].f2) (h6 : y.f6 = ns[i].f6) (hp : plainB y.f2 y.f3 y.f4 y.f5 = true) : ValidD (ns.set i y) r nx := by
 rw [show ns.set i y = ns.map (fun z => if z.f0 = ns[i].f0 then y else z) from set_map h.rises hi (fun _ => y)]
 refine soft_valid h _ (fun z hz => ?_)
 by_cases he : z.f0 = ns[i].f0
 ·
  have := rises_inj h.rises hz (List.getElem_mem hi) he
  simp only [if_pos he]
  rw [this]
  exact ⟨h0, h1, h2, h6, hp⟩
 ·
  simp only [if_neg he]
  exact ⟨trivial, trivial, trivial, trivial, h.plain z hz⟩
theorem risesA_pair (l : List S68) : RisesA l ↔ l.Pairwise (fun a b => ltB a.f0 b.f0 = true) :=
 ⟨fun h => List.pairwise_iff_getElem.2 (fun i j hi hj hij => h i j hi hj hij), fun h i j hi hj hij => List.pairwise_iff_getElem.1 h i j hi hj hij⟩
theorem lowA_split : ∀ (l : List S68) (id : ByteArray), RisesA l → (∀ a ∈ l.take (lowA l id), ltB a.f0 id = true) ∧ (∀ a ∈ l.drop (lowA l id), ltB a.f0 id = false)
 | [], id, _ => by simp
 | a :: l, id, h => by
  have hp := (risesA_pair _).1 h
  rw [List.pairwise_cons] at hp
  obtain ⟨h1, h2⟩ := hp
  obtain ⟨ih1, ih2⟩ := lowA_split l id ((risesA_pair _).2 h2)
  by_cases ha : ltB a.f0 id = true
  ·
   have e : lowA (a :: l) id = lowA l id + 1 := by unfold lowA; rw [List.countP_cons, if_pos ha]
   rw [e, List.take_succ_cons, List.drop_succ_cons]
   exact ⟨fun x hx => by rcases List.mem_cons.1 hx with rfl | hx; exact ha; exact ih1 x hx, ih2⟩
  ·
   have hall : ∀ x ∈ a :: l, ltB x.f0 id = false := fun x hx => by
    rcases List.mem_cons.1 hx with rfl | hx
    ·
     simpa using ha
    ·
     cases hb : ltB x.f0 id with
     | false => rfl
     | true => exact absurd (ltB_trans (h1 x hx) hb) ha
   have e : lowA (a :: l) id = 0 := by
    unfold lowA
    rw [List.countP_eq_zero]
    intro x hx
    rw [hall x hx]
    decide
   rw [e]
   exact ⟨fun x hx => by simp at hx, fun x hx => hall x (by simpa using hx)⟩
theorem elem_plain {a0 a1 a2 : ByteArray} {l : List S68} (ht : a0.toList.isEmpty = false) : plainB a0 a1 a2 l = true ↔ lettersB a0 = true ∧ a1.size ≤ 16 ∧ a2.toList = [] ∧ l.length ≤ 16 ∧ RisesA l ∧ (∀ x ∈ l, lettersB x.f0 = true ∧ x.f1.size ≤ 128) := by
 have hne : ¬ a0.toList = [] := fun h => by rw [h] at ht; cases ht
 unfold plainB
 rw [if_neg hne]
 simp only [Bool.and_eq_true, decide_eq_true_eq, Bool.not_eq_true']
 constructor
 ·
  rintro ⟨h1, h2, h3, h4, h5⟩
  obtain ⟨h6, h7⟩ := badAttrs_rises _ _ h5
  exact ⟨h1, h2, h3, h4, h6, fun x hx => (h7 x hx).2⟩
 ·
  rintro ⟨h1, h2, h3, h4, h5, h6⟩
  refine ⟨h1, h2, h3, h4, badAttrs_of _ _ h5 (fun x hx => ⟨?_, h6 x hx⟩)⟩
  have := (h6 x hx).1
  unfold lettersB at this
  unfold ltB
  cases hx0 : x.f0.toList with
  | nil => rw [hx0] at this; simp at this
  | cons b s => rw [show (⟨#[]⟩ : ByteArray).toList = [] by rw [ByteArray.toList]; unfold ByteArray.toList.loop; rfl]; rfl
theorem setE_plain {x : Nd} {name value : ByteArray} (ht : x.f2.toList.isEmpty = false) (h : plainB x.f2 x.f3 x.f4 x.f5 = true) (he : (setE x name value).1 = 0) : ∃ l, (setE x name value).2 = { x with f5 := l } ∧ plainB x.f2 x.f3 x.f4 l = true := by
 obtain ⟨h1, h2, h3, h4, h5, h6⟩ := (elem_plain ht).1 h
 obtain ⟨hs1, hs2⟩ := lowA_split x.f5 name h5
 have hle := lowA_le x.f5 name
 unfold setE at he ⊢
 split at he
 ·
  cases he
 rename_i g1
 split at he
 ·
  cases he
 rename_i g2
 rw [if_neg g1, if_neg g2]
 have hv : value.size ≤ 128 := by omega
 have hln : lettersB name = true := by simpa using g1
 split at he
 ·
  rename_i g3
  rw [if_pos g3]
  refine ⟨_, rfl, (elem_plain ht).2 ⟨h1, h2, h3, by rw [List.length_set]; exact h4, ?_, fun a ha => ?_⟩⟩
  ·
   have hL : lowA x.f5 name < x.f5.length := by
    unfold hasA at g3
    rw [Bool.and_eq_true] at g3
    exact of_decide_eq_true g3.1
   obtain ⟨v, hv1⟩ : ∃ v, (rd_T68 x.f5 (lowA x.f5 name : Int)).f0 = v := ⟨_, rfl⟩
   have hv0 := hv1
   rw [rdA_lt hL] at hv0
   rw [hv1]
   intro i j hi hj hij
   have hn : ∀ (t : Nat) (ht : t < (x.f5.set (lowA x.f5 name) ⟨v, value⟩).length), (x.f5.set (lowA x.f5 name) ⟨v, value⟩)[t].f0 = (x.f5[t]'(by simpa using ht)).f0 := by
    intro t ht
    rw [List.getElem_set]
    split
    ·
     rename_i e; subst e; exact hv0.symm
    ·
     rfl
   have hi' : i < x.f5.length := by simpa using hi
   have hj' : j < x.f5.length := by simpa using hj
   rw [hn i (by simpa using hi'), hn j (by simpa using hj')]
   exact h5 i j hi' hj' hij
  ·
   have hL : lowA x.f5 name < x.f5.length := by
    unfold hasA at g3
    rw [Bool.and_eq_true] at g3
    exact of_decide_eq_true g3.1
   rcases List.mem_or_eq_of_mem_set ha with ha | rfl
   ·
    exact h6 a ha
   ·
    rw [rdA_lt hL]
    exact ⟨(h6 _ (List.getElem_mem hL)).1, hv⟩
 ·
  rename_i g3
  rw [if_neg g3]
  split at he
  ·
   cases he
  rename_i g4
  rw [if_neg g4]
  refine ⟨_, rfl, (elem_plain ht).2 ⟨h1, h2, h3, ?_, ?_, fun a ha => ?_⟩⟩
  ·
   rw [List.length_append, List.length_cons, List.length_take, List.length_drop]; omega
  ·
   rw [risesA_pair, List.pairwise_append]
   have hp := (risesA_pair _).1 h5
   have hpd : (x.f5.take (lowA x.f5 name) ++ x.f5.drop (lowA x.f5 name)).Pairwise (fun a b => ltB a.f0 b.f0 = true) := by rw [List.take_append_drop]; exact hp
   rw [List.pairwise_append] at hpd
   have hafter : ∀ b ∈ x.f5.drop (lowA x.f5 name), ltB name b.f0 = true := by
    intro b hb
    refine ltB_total (hs2 b hb) (fun hbe => g3 ?_)
    obtain ⟨t, ht1, rfl⟩ := List.mem_iff_getElem.1 hb
    have hL : lowA x.f5 name < x.f5.length := by rw [List.length_drop] at ht1; omega
    rw [List.getElem_drop] at hbe
    have h0 : t = 0 := by
     rcases Nat.eq_zero_or_pos t with h | h
     ·
      exact h
     ·
      exfalso
      have hlt := h5 (lowA x.f5 name) (lowA x.f5 name + t) hL (by rw [List.length_drop] at ht1; omega) (by omega)
      have hf := hs2 (x.f5[lowA x.f5 name]) (List.mem_iff_getElem.2 ⟨0, by rw [List.length_drop]; omega, by rw [List.getElem_drop]; rfl⟩)
      unfold ltB at hlt hf
      rw [hbe] at hlt
      rw [hlt] at hf
      cases hf
    subst h0
    unfold hasA
    rw [rdA_lt hL, Bool.and_eq_true]
    exact ⟨decide_eq_true hL, decide_eq_true hbe⟩
   refine ⟨hpd.1, List.pairwise_cons.2 ⟨hafter, hpd.2.1⟩, fun a ha b hb => ?_⟩
   rcases List.mem_cons.1 hb with rfl | hb
   ·
    exact hs1 a ha
   ·
    exact hpd.2.2 a ha b hb
  ·
   rcases List.mem_append.1 ha with ha | ha
   ·
    exact h6 a (List.mem_of_mem_take ha)
   ·
    rcases List.mem_cons.1 ha with rfl | ha
    ·
     exact ⟨hln, hv⟩
    ·
     exact h6 a (List.mem_of_mem_drop ha)
theorem unsetE_plain {x : Nd} {name : ByteArray} (ht : x.f2.toList.isEmpty = false) (h : plainB x.f2 x.f3 x.f4 x.f5 = true) (he : (unsetE x name).1 = 0) : ∃ l, (unsetE x name).2 = { x with f5 := l } ∧ plainB x.f2 x.f3 x.f4 l = true := by
 obtain ⟨h1, h2, h3, h4, h5, h6⟩ := (elem_plain ht).1 h
 unfold unsetE at he ⊢
 split at he
 ·
  cases he
 rename_i g1
 rw [if_neg g1]
 have hsub : (x.f5.eraseIdx (lowA x.f5 name)).Sublist x.f5 := List.eraseIdx_sublist _ _
 refine ⟨_, rfl, (elem_plain ht).2 ⟨h1, h2, h3, Nat.le_trans hsub.length_le h4, (risesA_pair _).2 (((risesA_pair _).1 h5).sublist hsub), fun a ha => h6 a (hsub.subset ha)⟩⟩
theorem writeE_plain {x : Nd} {text : ByteArray} (ht : x.f2.toList.isEmpty = true) (h : plainB x.f2 x.f3 x.f4 x.f5 = true) (he : (writeE x text).1 = 0) : (writeE x text).2 = { x with f4 := text } ∧ plainB x.f2 x.f3 text x.f5 = true := by
 have hne : x.f2.toList = [] := List.isEmpty_iff.1 ht
 unfold writeE at he ⊢
 split at he
 ·
  cases he
 rename_i g1
 rw [if_neg g1]
 refine ⟨rfl, ?_⟩
 unfold plainB at h ⊢
 rw [if_pos hne] at h ⊢
 simp only [Bool.and_eq_true, decide_eq_true_eq] at h ⊢
 exact ⟨h.1, by omega, h.2.2⟩
inductive Up (ns : List Nd) (id : Int) : Int → Prop
 | here : Up ns id id
 | step (y : Nd) : y ∈ ns → y.f1 ≠ 0 → Up ns id y.f1 → Up ns id y.f0
theorem upF_up {ns : List Nd} {r nx : Int} (h : ValidD ns r nx) {id : Int} (hid : id ≠ 0) {d : Int → Nat} (hd : ∀ y ∈ ns, y.f1 ≠ 0 → d y.f1 < d y.f0) : ∀ (k : Nat) (z : Int), Up ns id z → ns.countP (fun q => decide (d q.f0 < d z)) < k → upF ns id k z = true
 | 0, _, _, hc => by omega
 | k + 1, z, hu, hc => by
  rw [upF]
  cases hn : nodeOf ns z with
  | none =>
   cases hu with
   | here => simpa using hid
   | step y hy _ _ => exact absurd rfl ((nodeOf_no h.rises).1 hn y hy)
  | some x =>
   obtain ⟨hx, hx0⟩ := nodeOf_mem hn
   show (if z = id then !decide (z = 0) else upF ns id k x.f1) = true
   by_cases hz : z = id
   ·
    rw [if_pos hz, hz]; simpa using hid
   ·
    rw [if_neg hz]
    cases hu with
    | here => exact absurd rfl hz
    | step y hy h1 hu =>
     have := rises_inj h.rises hx hy hx0
     subst this
     refine upF_up h hid hd k x.f1 hu ?_
     obtain ⟨p, hp, hp0, _⟩ := h.home x hx h1
     have hlt := hd x hx h1
     have := countP_lt_ (l := ns) (p := fun q => decide (d q.f0 < d x.f1)) (q := fun q => decide (d q.f0 < d x.f0)) (fun q _ h => decide_eq_true (Nat.lt_trans (of_decide_eq_true h) hlt)) ⟨p, hp, decide_eq_true (by rw [hp0]; exact hlt), decide_eq_false (by rw [hp0]; omega)⟩
     omega
def insN (at_ : Nat) (id pid : Int) (z : Nd) : Nd := { z with f1 := if z.f0 = id then pid else z.f1, f6 := if z.f0 = pid then z.f6.take at_ ++ id :: z.f6.drop at_ else z.f6 }
def moreN (at_ : Nat) (id pid : Int) (z : Nd) : Nd := if z.f0 = pid then { z with f6 := z.f6.take at_ ++ id :: z.f6.drop at_ } else z
theorem moreN_f0 (at_ : Nat) (id pid : Int) (z : Nd) : (moreN at_ id pid z).f0 = z.f0 := by unfold moreN; split <;> rfl
theorem hungF_map {ns : List Nd} (hR : Rises ns) {L1 L2 : Nat} (h1 : L1 < ns.length) (h2 : L2 < ns.length) (at_ : Int) : hungF ns L1 L2 at_ ns[L1].f0 ns[L2].f0 = (ns.map (cutN ns[L1].f0 ns[L1].f1)).map (insN at_.toNat ns[L1].f0 ns[L2].f0) := by
 unfold hungF
 rw [offF_map hR h1]
 obtain ⟨id, hid⟩ : ∃ id, ns[L1].f0 = id := ⟨_, rfl⟩
 obtain ⟨pid, hpid⟩ : ∃ id, ns[L2].f0 = id := ⟨_, rfl⟩
 obtain ⟨ms, hms⟩ : ∃ ms, ns.map (cutN ns[L1].f0 ns[L1].f1) = ms := ⟨_, rfl⟩
 have hR1 : Rises ms := by rw [← hms]; exact rises_map hR (fun _ => rfl)
 have hl : ms.length = ns.length := by rw [← hms, List.length_map]
 have hL1 : L1 < ms.length := by omega
 have hL2 : L2 < ms.length := by omega
 have hid1 : ms[L1].f0 = id := by rw [← hid]; simp only [← hms, List.getElem_map]; rfl
 have hpid1 : ms[L2].f0 = pid := by rw [← hpid]; simp only [← hms, List.getElem_map]; rfl
 rw [hms, hid, hpid]
 show (ms.set L2 { rd_T63 ms (L2 : Int) with f6 := (rd_T63 ms (L2 : Int)).f6.take at_.toNat ++ id :: (rd_T63 ms (L2 : Int)).f6.drop at_.toNat }).set L1 { rd_T63 (ms.set L2 { rd_T63 ms (L2 : Int) with f6 := (rd_T63 ms (L2 : Int)).f6.take at_.toNat ++ id :: (rd_T63 ms (L2 : Int)).f6.drop at_.toNat }) (L1 : Int) with f1 := pid } = _
 rw [rd_lt hL2]
 have e1 : ms.set L2 { ms[L2] with f6 := ms[L2].f6.take at_.toNat ++ id :: ms[L2].f6.drop at_.toNat } = ms.map (moreN at_.toNat id pid) := by
  have := set_map hR1 hL2 (fun z => { z with f6 := z.f6.take at_.toNat ++ id :: z.f6.drop at_.toNat })
  refine this.trans (List.map_congr_left fun z _ => ?_)
  show (if z.f0 = ms[L2].f0 then _ else z) = _
  rw [hpid1]
  rfl
 rw [e1]
 have hR2 := rises_map hR1 (moreN_f0 at_.toNat id pid)
 have hi1 : L1 < (ms.map (moreN at_.toNat id pid)).length := by simpa using hL1
 have h1' : (ms.map (moreN at_.toNat id pid))[L1].f0 = id := by rw [List.getElem_map, moreN_f0]; exact hid1
 rw [rd_lt hi1, set_map hR2 hi1 (fun z => { z with f1 := pid }), h1', List.map_map]
 refine List.map_congr_left (fun z hz => ?_)
 show (if (moreN at_.toNat id pid z).f0 = id then ({ moreN at_.toNat id pid z with f1 := pid } : Nd) else moreN at_.toNat id pid z) = _
 rw [moreN_f0]
 unfold insN moreN
 by_cases g2 : z.f0 = pid
 ·
  by_cases g3 : z.f0 = id
  ·
   simp only [if_pos g2, if_pos g3]
  ·
   simp only [if_pos g2, if_neg g3]
 ·
  by_cases g3 : z.f0 = id
  ·
   simp only [if_neg g2, if_pos g3]
  ·
   simp only [if_neg g2, if_neg g3]
open Classical in
theorem ins_valid {ns : List Nd} {r nx : Int} (h : ValidD ns r nx) {x y : Nd} (hx : x ∈ ns) (hy : y ∈ ns) (hx1 : x.f1 = 0) (hr : r ≠ x.f0) (ht : y.f2.toList.isEmpty = false) (hl : y.f6.length < 32) (hup : ¬ Up ns x.f0 y.f0) (at_ : Nat) : ValidD (ns.map (insN at_ x.f0 y.f0)) r nx := by
 have hu : ∀ z, (insN at_ x.f0 y.f0 z).f0 = z.f0 := fun _ => rfl
 have hne : y.f0 ≠ x.f0 := fun he => hup (by rw [he]; exact .here)
 have hxn : ∀ z ∈ ns, x.f0 ∉ z.f6 := fun z hz hk => by
  obtain ⟨q, hq, hq0, hq1⟩ := h.kids z hz _ hk
  have := rises_inj h.rises hq hx hq0
  subst this
  rw [hx1] at hq1
  have := (h.ids z hz).1
  omega
 have hmem : ∀ (l : List Int) (k : Int), k ∈ l.take at_ ++ x.f0 :: l.drop at_ ↔ k = x.f0 ∨ k ∈ l := fun l k => by
  constructor
  ·
   intro hm
   rcases List.mem_append.1 hm with hm | hm
   ·
    exact .inr (List.mem_of_mem_take hm)
   ·
    rcases List.mem_cons.1 hm with hm | hm
    ·
     exact .inl hm
    ·
     exact .inr (List.mem_of_mem_drop hm)
  ·
   rintro (hm | hm)
   ·
    rw [hm]; simp
   ·
    rw [← List.take_append_drop at_ l] at hm
    rcases List.mem_append.1 hm with hm | hm
    ·
     exact List.mem_append_left _ hm
    ·
     exact List.mem_append_right _ (List.mem_cons_of_mem _ hm)
 have hnd : ∀ (l : List Int), l.Nodup → x.f0 ∉ l → (l.take at_ ++ x.f0 :: l.drop at_).Nodup := fun l hl hk => by
  have h1 : (l.take at_ ++ l.drop at_).Nodup := by rw [List.take_append_drop]; exact hl
  rw [List.nodup_append] at h1 ⊢
  refine ⟨h1.1, List.nodup_cons.2 ⟨fun hm => hk (List.mem_of_mem_drop hm), h1.2.1⟩, fun a ha b hb he => ?_⟩
  rcases List.mem_cons.1 hb with hb | hb
  ·
   exact hk (List.mem_of_mem_take (by rw [← hb, ← he]; exact ha))
  ·
   exact h1.2.2 a ha b hb he
 refine ⟨h.nx1, h.nx2, by rw [List.length_map]; exact h.len, rises_map h.rises hu, ?_, ?_, ?_, ?_, ?_, ?_, ?_, ?_, ?_⟩
 ·
  intro v hv; obtain ⟨z, hz, rfl⟩ := List.mem_map.1 hv; exact h.ids z hz
 ·
  intro v hv; obtain ⟨z, hz, rfl⟩ := List.mem_map.1 hv; exact h.plain z hz
 ·
  intro v hv; obtain ⟨z, hz, rfl⟩ := List.mem_map.1 hv
  show (if z.f0 = y.f0 then z.f6.take at_ ++ x.f0 :: z.f6.drop at_ else z.f6).length ≤ 32
  split
  ·
   rename_i he
   have := rises_inj h.rises hz hy he
   subst this
   rw [List.length_append, List.length_cons, List.length_take, List.length_drop]
   omega
  ·
   exact h.few z hz
 ·
  intro v hv; obtain ⟨z, hz, rfl⟩ := List.mem_map.1 hv
  intro hte
  show (if z.f0 = y.f0 then z.f6.take at_ ++ x.f0 :: z.f6.drop at_ else z.f6) = []
  split
  ·
   rename_i he
   have := rises_inj h.rises hz hy he
   subst this
   have hte : z.f2.toList.isEmpty = true := hte
   rw [hte] at ht
   cases ht
  ·
   exact h.text z hz hte
 ·
  intro v hv; obtain ⟨z, hz, rfl⟩ := List.mem_map.1 hv
  show (if z.f0 = y.f0 then z.f6.take at_ ++ x.f0 :: z.f6.drop at_ else z.f6).Nodup
  split
  ·
   exact hnd _ (h.once z hz) (hxn z hz)
  ·
   exact h.once z hz
 ·
  intro v hv; obtain ⟨z, hz, rfl⟩ := List.mem_map.1 hv
  intro k hk
  have hk' : k ∈ (if z.f0 = y.f0 then z.f6.take at_ ++ x.f0 :: z.f6.drop at_ else z.f6) := hk
  have hcase : (z.f0 = y.f0 ∧ k = x.f0) ∨ k ∈ z.f6 := by
   split at hk'
   ·
    rename_i he
    rcases (hmem _ _).1 hk' with h1 | h1
    ·
     exact .inl ⟨he, h1⟩
    ·
     exact .inr h1
   ·
    exact .inr hk'
  rcases hcase with ⟨he, hk1⟩ | hk1
  ·
   refine ⟨insN at_ x.f0 y.f0 x, List.mem_map_of_mem hx, hk1.symm, ?_⟩
   show (if x.f0 = x.f0 then y.f0 else x.f1) = z.f0
   rw [if_pos rfl, he]
  ·
   obtain ⟨q, hq, hq0, hq1⟩ := h.kids z hz k hk1
   refine ⟨insN at_ x.f0 y.f0 q, List.mem_map_of_mem hq, hq0, ?_⟩
   show (if q.f0 = x.f0 then y.f0 else q.f1) = z.f0
   rw [if_neg]
   ·
    exact hq1
   ·
    intro he
    exact hxn z hz (by rw [← he, hq0]; exact hk1)
 ·
  intro v hv; obtain ⟨z, hz, rfl⟩ := List.mem_map.1 hv
  intro h1
  have h2 : (if z.f0 = x.f0 then y.f0 else z.f1) ≠ 0 := h1
  by_cases he : z.f0 = x.f0
  ·
   refine ⟨insN at_ x.f0 y.f0 y, List.mem_map_of_mem hy, ?_, ?_⟩
   ·
    show y.f0 = (if z.f0 = x.f0 then y.f0 else z.f1)
    rw [if_pos he]
   ·
    show z.f0 ∈ (if y.f0 = y.f0 then y.f6.take at_ ++ x.f0 :: y.f6.drop at_ else y.f6)
    rw [if_pos rfl]
    exact (hmem _ _).2 (.inl he)
  ·
   rw [if_neg he] at h2
   obtain ⟨p, hp, hp0, hk⟩ := h.home z hz h2
   refine ⟨insN at_ x.f0 y.f0 p, List.mem_map_of_mem hp, ?_, ?_⟩
   ·
    show p.f0 = (if z.f0 = x.f0 then y.f0 else z.f1)
    rw [if_neg he]; exact hp0
   ·
    show z.f0 ∈ (if p.f0 = y.f0 then p.f6.take at_ ++ x.f0 :: p.f6.drop at_ else p.f6)
    split
    ·
     exact (hmem _ _).2 (.inr hk)
    ·
     exact hk
 ·
  obtain ⟨d, hd⟩ := h.rank
  refine ⟨fun z => if Up ns x.f0 z then d z + (d y.f0 + 1) else d z, fun v hv => ?_⟩
  obtain ⟨z, hz, rfl⟩ := List.mem_map.1 hv
  show (if z.f0 = x.f0 then y.f0 else z.f1) ≠ 0 → (if Up ns x.f0 (if z.f0 = x.f0 then y.f0 else z.f1) then d (if z.f0 = x.f0 then y.f0 else z.f1) + (d y.f0 + 1) else d (if z.f0 = x.f0 then y.f0 else z.f1)) < (if Up ns x.f0 z.f0 then d z.f0 + (d y.f0 + 1) else d z.f0)
  by_cases he : z.f0 = x.f0
  ·
   rw [if_pos he, if_neg hup, if_pos (by rw [he]; exact .here)]
   intro _
   omega
  ·
   rw [if_neg he]
   intro h1
   have hlt := hd z hz h1
   by_cases hz1 : Up ns x.f0 z.f1
   ·
    rw [if_pos hz1, if_pos (.step z hz h1 hz1)]
    omega
   ·
    rw [if_neg hz1]
    split <;> omega
 ·
  rcases h.root with h1 | ⟨v, hv, hv0, hvt, hp⟩
  ·
   exact .inl h1
  ·
   refine .inr ⟨insN at_ x.f0 y.f0 v, List.mem_map_of_mem hv, hv0, hvt, ?_⟩
   show (if v.f0 = x.f0 then y.f0 else v.f1) = 0
   rw [if_neg (by rw [hv0]; exact hr)]
   exact hp
theorem up_cut {ns : List Nd} {x : Nd} {z : Int} (h : Up (ns.map (cutN x.f0 x.f1)) x.f0 z) : Up ns x.f0 z := by
 induction h with
 | here => exact .here
 | step v hv h1 _ ih =>
  obtain ⟨q, hq, rfl⟩ := List.mem_map.1 hv
  have h2 : (if q.f0 = x.f0 then 0 else q.f1) ≠ 0 := h1
  have ih2 : Up ns x.f0 (if q.f0 = x.f0 then 0 else q.f1) := ih
  by_cases he : q.f0 = x.f0
  ·
   rw [if_pos he] at h2; exact absurd rfl h2
  ·
   rw [if_neg he] at h2 ih2
   exact .step q hq h2 ih2
theorem away_valid {ns : List Nd} {r nx id : Int} {G : List Int} (h : ValidD ns r nx) (hid : ∀ x ∈ ns, x.f0 = id → x.f1 = 0) (hI : GoneInv ns id [] G) : ValidD (ns.filter (fun x => !G.contains x.f0)) (if G.contains r = true then 0 else r) nx := by
 have hm : ∀ y, y ∈ ns.filter (fun x => !G.contains x.f0) ↔ y ∈ ns ∧ y.f0 ∉ G := fun y => by rw [List.mem_filter]; simp
 refine ⟨h.nx1, h.nx2, Nat.le_trans (List.length_filter_le _ _) h.len, rises_filter h.rises _, fun y hy => h.ids y ((hm y).1 hy).1, fun y hy => h.plain y ((hm y).1 hy).1, fun y hy => h.few y ((hm y).1 hy).1, fun y hy => h.text y ((hm y).1 hy).1, fun y hy => h.once y ((hm y).1 hy).1, ?_, ?_, ?_, ?_⟩
 ·
  intro y hy k hk
  obtain ⟨hy1, hy2⟩ := (hm y).1 hy
  obtain ⟨x, hx, hx0, hx1⟩ := h.kids y hy1 k hk
  refine ⟨x, (hm x).2 ⟨hx, fun hg => ?_⟩, hx0, hx1⟩
  rcases hI.up x hx (by simpa using hg) with he | hp
  ·
   have := hid x hx he
   rw [this] at hx1
   have := (h.ids y hy1).1
   omega
  ·
   rw [hx1] at hp
   exact hy2 hp
 ·
  intro y hy h1
  obtain ⟨hy1, hy2⟩ := (hm y).1 hy
  obtain ⟨p, hp, hp0, hk⟩ := h.home y hy1 h1
  refine ⟨p, (hm p).2 ⟨hp, fun hg => hy2 ?_⟩, hp0, hk⟩
  simpa using hI.down p hp hg _ hk
 ·
  obtain ⟨d, hd⟩ := h.rank
  exact ⟨d, fun y hy => hd y ((hm y).1 hy).1⟩
 ·
  by_cases hg : r ∈ G
  ·
   rw [if_pos (by simpa using hg)]
   exact .inl rfl
  ·
   rw [if_neg (by simpa using hg)]
   rcases h.root with h1 | ⟨y, hy, hy0, ht, hp⟩
   ·
    exact .inl h1
   ·
    exact .inr ⟨y, (hm y).2 ⟨hy, by rw [hy0]; exact hg⟩, hy0, ht, hp⟩
theorem doE_valid {s : S28} {p : S45} (h : ValidD s.f0 s.f1 s.f2) (he : (doE s p).1 = 0) : ValidD (doE s p).2.f0 (doE s p).2.f1 (doE s p).2.f2 := by
 unfold doE at he ⊢
 split
 ·
  -- create
  rename_i hc
  rw [if_pos hc] at he
  unfold createE at he ⊢
  split at he
  ·
   cases he
  rename_i g1
  split at he
  ·
   cases he
  rename_i g2
  split at he
  ·
   cases he
  rename_i g3
  rw [if_neg g1, if_neg g2, if_neg g3]
  have g1' : p.f1 = s.f2 := by simpa using g1
  have hn1 := h.nx1
  have hn2 := h.nx2
  have hm : ∀ y : Nd, y ∈ s.f0 ++ [⟨p.f1, 0, p.f4, p.f5, p.f6, [], []⟩] ↔ y ∈ s.f0 ∨ y = ⟨p.f1, 0, p.f4, p.f5, p.f6, [], []⟩ := fun y => by simp
  show ValidD (s.f0 ++ [⟨p.f1, 0, p.f4, p.f5, p.f6, [], []⟩]) s.f1 (s.f2 + 1)
  refine ⟨by omega, by omega, by rw [List.length_append, List.length_singleton]; omega, rises_snoc h.rises (fun y hy => by have := h.ids y hy; show y.f0 < p.f1; omega), ?_, ?_, ?_, ?_, ?_, ?_, ?_, ?_, ?_⟩
  ·
   intro y hy
   rcases (hm y).1 hy with hy | rfl
   ·
    have := h.ids y hy; omega
   ·
    show 1 ≤ p.f1 ∧ p.f1 < s.f2 + 1; omega
  ·
   intro y hy
   rcases (hm y).1 hy with hy | rfl
   ·
    exact h.plain y hy
   ·
    show plainB p.f4 p.f5 p.f6 [] = true; simpa using g2
  ·
   intro y hy
   rcases (hm y).1 hy with hy | rfl
   ·
    exact h.few y hy
   ·
    show 0 ≤ 32; omega
  ·
   intro y hy ht
   rcases (hm y).1 hy with hy | rfl
   ·
    exact h.text y hy ht
   ·
    rfl
  ·
   intro y hy
   rcases (hm y).1 hy with hy | rfl
   ·
    exact h.once y hy
   ·
    exact List.nodup_nil
  ·
   intro y hy k hk
   rcases (hm y).1 hy with hy | rfl
   ·
    obtain ⟨x, hx, h1⟩ := h.kids y hy k hk
    exact ⟨x, (hm x).2 (.inl hx), h1⟩
   ·
    cases hk
  ·
   intro y hy h1
   rcases (hm y).1 hy with hy | rfl
   ·
    obtain ⟨x, hx, h2⟩ := h.home y hy h1
    exact ⟨x, (hm x).2 (.inl hx), h2⟩
   ·
    exact absurd rfl h1
  ·
   obtain ⟨d, hd⟩ := h.rank
   refine ⟨d, fun y hy h1 => ?_⟩
   rcases (hm y).1 hy with hy | rfl
   ·
    exact hd y hy h1
   ·
    exact absurd rfl h1
  ·
   rcases h.root with h1 | ⟨y, hy, h1⟩
   ·
    exact .inl h1
   ·
    exact .inr ⟨y, (hm y).2 (.inl hy), h1⟩
 rename_i hc1
 rw [if_neg hc1] at he
 split
 ·
  -- hang
  rename_i hc
  rw [if_pos hc] at he
  unfold hangE at he ⊢
  cases hx : nodeOf s.f0 p.f1 with
  | none => rw [hx] at he; cases he
  | some x =>
   cases hy : nodeOf s.f0 p.f2 with
   | none => rw [hx, hy] at he; cases he
   | some y =>
    rw [hx, hy] at he
    simp only at he ⊢
    split at he
    ·
     cases he
    rename_i g1
    split at he
    ·
     cases he
    rename_i g2
    split at he
    ·
     cases he
    rename_i g3
    split at he
    ·
     cases he
    rename_i g4
    split at he
    ·
     cases he
    rename_i g5
    rw [if_neg g1, if_neg g2, if_neg g3, if_neg g4, if_neg g5]
    obtain ⟨hL1, hr1, hx0⟩ := nodeOf_some hx
    obtain ⟨hL2, hr2, hy0⟩ := nodeOf_some hy
    rw [rd_lt hL1] at hr1
    rw [rd_lt hL2] at hr2
    have hxm := (nodeOf_mem hx).1
    have hym := (nodeOf_mem hy).1
    have hF := hungF_map h.rises hL1 hL2 p.f3
    simp only [hr1, hr2] at hF
    rw [hx0, hy0] at hF
    show ValidD (hungF s.f0 (lowP s.f0 p.f1) (lowP s.f0 p.f2) p.f3 p.f1 p.f2) s.f1 s.f2
    rw [hF]
    have hv := off_valid h hxm
    rw [hx0] at hv
    have hidn : x.f0 ≠ 0 := by have := (h.ids x hxm).1; omega
    obtain ⟨d, hd⟩ := h.rank
    have hup : ¬ Up s.f0 x.f0 y.f0 := fun hU => g2 (by
     rw [← hx0, ← hy0]
     exact upF_up h hidn hd _ _ hU (Nat.lt_succ_of_le List.countP_le_length))
    have hyl : (cutN p.f1 x.f1 y).f6.length < 32 := by
     show (if y.f0 = x.f1 then y.f6.filter (fun k => k != p.f1) else y.f6).length < 32
     have hfw := h.few y hym
     unfold others at g5
     by_cases hq : y.f0 = x.f1
     ·
      rw [if_pos hq]
      rw [if_pos (by rw [← hq, hy0])] at g5
      have hne : x.f1 ≠ 0 := by have := (h.ids y hym).1; omega
      obtain ⟨q, hq1, hq0, hk⟩ := h.home x hxm hne
      have := rises_inj h.rises hq1 hym (hq0.trans hq.symm)
      subst this
      have hc := nodup_count_ q.f6 x.f0 (h.once q hq1) hk
      rw [hx0] at hc
      omega
     ·
      rw [if_neg hq]
      rw [if_neg (fun h2 => hq (by rw [hy0, h2]))] at g5
      omega
    have hI := ins_valid (x := cutN p.f1 x.f1 x) (y := cutN p.f1 x.f1 y) hv (List.mem_map_of_mem hxm) (List.mem_map_of_mem hym) (by show (if x.f0 = p.f1 then 0 else x.f1) = 0; rw [if_pos hx0]) (by show s.f1 ≠ x.f0; rw [hx0]; exact g3) (by show y.f2.toList.isEmpty = false; simpa using g1) hyl (fun hU => hup (by
     have hU2 : Up (s.f0.map (cutN p.f1 x.f1)) x.f0 y.f0 := hU
     rw [← hx0] at hU2
     exact up_cut hU2)) p.f3.toNat
    have e1 : (cutN p.f1 x.f1 x).f0 = p.f1 := hx0
    have e2 : (cutN p.f1 x.f1 y).f0 = p.f2 := hy0
    rw [e1, e2] at hI
    exact hI
 rename_i hc2
 rw [if_neg hc2] at he
 split
 ·
  -- root
  rename_i hc
  rw [if_pos hc] at he
  unfold rootE at he ⊢
  split
  ·
   exact { h with root := .inl rfl }
  rename_i g1
  rw [if_neg g1] at he
  cases hx : nodeOf s.f0 p.f1 with
  | none => rw [hx] at he; cases he
  | some y =>
   rw [hx] at he
   simp only at he ⊢
   split at he
   ·
    cases he
   rename_i g2
   split at he
   ·
    rename_i g3
    rw [if_neg g2, if_pos g3]
    exact { h with root := .inr ⟨y, (nodeOf_mem hx).1, (nodeOf_mem hx).2, by simpa using g2, g3⟩ }
   ·
    cases he
 rename_i hc3
 rw [if_neg hc3] at he
 split
 ·
  rename_i hc
  rw [if_pos hc] at he
  cases he
 rename_i hc4
 rw [if_neg hc4] at he
 cases hx : nodeOf s.f0 p.f1 with
 | none => rw [hx] at he; cases he
 | some x =>
  rw [hx] at he
  simp only at he ⊢
  obtain ⟨hL, hr, hx0⟩ := nodeOf_some hx
  rw [rd_lt hL] at hr
  have hxm := (nodeOf_mem hx).1
  split
  ·
   -- away
   obtain ⟨G, hG, _, hI⟩ := goneOf_spec h hL
   simp only [hr] at hI
   rw [hG]
   show ValidD ((offF s.f0 (lowP s.f0 p.f1)).filter (fun x => !G.contains x.f0)) (if G.contains s.f1 = true then 0 else s.f1) s.f2
   have hO := offF_map h.rises hL
   simp only [hr] at hO
   rw [hO]
   exact away_valid (off_valid h hxm) (fun v hv he => by
    obtain ⟨z, hz, rfl⟩ := List.mem_map.1 hv
    show (if z.f0 = x.f0 then 0 else z.f1) = 0
    exact if_pos he) hI
  ·
   rename_i hc5
   rw [if_neg hc5] at he
   split
   ·
    rename_i hc
    rw [if_pos hc] at he
    cases he
   rename_i hc6
   rw [if_neg hc6] at he
   have hpl := h.plain x hxm
   have htag : x.f2.toList.isEmpty = (p.f0 == 6) := by simpa using hc6
   show ValidD (s.f0.set (lowP s.f0 p.f1) (nodeOp x p).2) s.f1 s.f2
   have he2 : (nodeOp x p).1 = 0 := he
   unfold nodeOp at he2 ⊢
   split
   ·
    rename_i g
    rw [if_pos g] at he2
    have ht : x.f2.toList.isEmpty = false := by rw [htag, g]; rfl
    obtain ⟨l, hl, hp⟩ := setE_plain ht hpl he2
    rw [hl]
    exact set_valid h hL _ (by rw [hr]) (by rw [hr]) (by rw [hr]) (by rw [hr]) hp
   ·
    rename_i g
    rw [if_neg g] at he2
    split
    ·
     rename_i g'
     rw [if_pos g'] at he2
     have ht : x.f2.toList.isEmpty = false := by rw [htag, g']; rfl
     obtain ⟨l, hl, hp⟩ := unsetE_plain ht hpl he2
     rw [hl]
     exact set_valid h hL _ (by rw [hr]) (by rw [hr]) (by rw [hr]) (by rw [hr]) hp
    ·
     rename_i g'
     rw [if_neg g'] at he2
     have ht : x.f2.toList.isEmpty = true := by
      have : p.f0 = 6 := by
       rcases Classical.not_not.1 hc4 with h | h | h | h
       ·
        exact absurd h hc5
       ·
        exact absurd h g
       ·
        exact absurd h g'
       ·
        exact h
      rw [htag, this]; rfl
     obtain ⟨hl, hp⟩ := writeE_plain ht hpl he2
     rw [hl]
     exact set_valid h hL _ (by rw [hr]) (by rw [hr]) (by rw [hr]) (by rw [hr]) hp
end Go.Proofs.Ytleofbidijbahaa.D
