/- What the print's words and the walks are, as far as this claim names them. -/
import Derived.Test.YtleofbidijbahaaYDomEv
import Derived.Test.YtleofbidijbahaaYD60
namespace Go.Proofs.Ytleofbidijbahaa.PureBack
set_option linter.unusedVariables false
set_option linter.unusedSimpArgs false
open Go.RowKit Go.Proofs.Ytleofbidijbahaa.D Go.Proofs.YtleofbidijbahaaW.PrintWords Go.Proofs.YtleofbidijbahaaW.PrintLast DomEv
theorem sameA_refl : ∀ l : List S68, sameA l l = true
 | [] => rfl
 | x :: xs => by rw [sameA, if_neg (by simp), sameA_refl xs]
theorem sameI_refl : ∀ l : List Int, sameI l l = true
 | [] => rfl
 | x :: xs => by rw [sameI, if_pos rfl, sameI_refl xs]
theorem alike_refl (l : List S64) (r nx : Int) : alikeI (l.map toN) r nx l r nx = 0 := by
 have h : ∀ l : List S64, alikeL (l.map toN) l = 0 := by
  intro l
  induction l with
  | nil => rfl
  | cons z zs ih =>
   rw [List.map_cons, alikeL, if_pos, ih]
   unfold sameN toN
   simp [sameA_refl, sameI_refl]
 unfold alikeI
 rw [if_pos rfl, if_pos rfl, if_pos (by simp), h]
theorem checkRL_home {ms : List S64} {nx : Int} : ∀ (ys : List S64) (j : Nat), checkRL ms nx j ys = true → ∀ y ∈ ys, homeR ms y = true
 | [], _, _, y, hy => by cases hy
 | a :: ys, j, h, y, hy => by
  rw [checkRL] at h
  split at h
  ·
   cases h
  ·
   split at h
   ·
    rename_i h2
    rcases List.mem_cons.1 hy with rfl | hy
    ·
     exact h2
    ·
     exact checkRL_home ys (j + 1) h y hy
   ·
    cases h
theorem checkR_home {ms : List S64} {r nx : Int} (h : checkR ms r nx = 0) {y : S64} (hy : y ∈ ms) (h1 : y.f1 ≠ 0) : ∃ t : Nat, t < ms.length ∧ placeR y.f1 ms 0 = t ∧ (rd_T64 ms (t : Int)).f0 = y.f1 ∧ rd_T64 ms (t : Int) ∈ ms ∧ y.f0 ∈ (rd_T64 ms (t : Int)).f6 := by
 unfold checkR at h
 split at h
 ·
  cases h
 split at h
 ·
  cases h
 split at h
 ·
  cases h
 split at h
 ·
  rename_i h2
  have hh := checkRL_home ms 0 h2 y hy
  unfold homeR at hh
  rw [if_neg h1] at hh
  rcases placeR_cases y.f1 ms with ⟨hp, -⟩ | ⟨t, ht, hp, h3, h4⟩
  ·
   rw [hp, if_pos (by decide)] at hh; cases hh
  ·
   rw [hp, if_neg (show ¬ (t : Int) < 0 by omega)] at hh
   refine ⟨t, ht, hp, h3, h4, ?_⟩
   split at hh
   ·
    cases hh
   ·
    rename_i h5
    exact (inR_iff _ _ 0 (Int.le_refl _)).1 (by omega)
 ·
  cases h
theorem up_of {ns : List Nd} {r nx : Int} (hv : ValidD ns r nx) {id : Int} : ∀ (k : Nat) (z : Int), upF ns id k z = true → Up ns id z
 | 0, z, h => by cases h
 | k + 1, z, h => by
  rw [upF] at h
  cases hn : nodeOf ns z with
  | none =>
   rw [hn] at h
   have h2 : (decide (z = id) && !decide (z = 0)) = true := h
   rw [Bool.and_eq_true] at h2
   rw [of_decide_eq_true h2.1]
   exact .here
  | some x =>
   rw [hn] at h
   obtain ⟨hx, hx0⟩ := nodeOf_mem hn
   have h2 : (if z = id then !decide (z = 0) else upF ns id k x.f1) = true := h
   by_cases hz : z = id
   ·
    rw [hz]; exact .here
   ·
    rw [if_neg hz] at h2
    have hu := up_of hv k x.f1 h2
    by_cases h1 : x.f1 = 0
    ·
     exfalso
     rw [h1] at h2
     have hno : nodeOf ns 0 = none := (nodeOf_no hv.rises).2 (fun y hy he => by have := (hv.ids y hy).1; omega)
     cases k with
     | zero => cases h2
     | succ k =>
      rw [upF, hno] at h2
      simp at h2
    ·
     rw [← hx0]
     exact .step x hx h1 hu
theorem up_rank {ns : List Nd} {id : Int} {d : Int → Nat} (hd : ∀ y ∈ ns, y.f1 ≠ 0 → d y.f1 < d y.f0) {z : Int} (h : Up ns id z) : d id ≤ d z := by
 induction h with
 | here => exact Nat.le_refl _
 | step y hy h1 _ ih => have := hd y hy h1; omega
theorem up_moved {ns ms : List Nd} {id : Int} (hm : ∀ y ∈ ms, y.f0 ≠ id → ∃ z ∈ ns, z.f0 = y.f0 ∧ z.f1 = y.f1) {z : Int} (h : Up ms id z) : Up ns id z := by
 induction h with
 | here => exact .here
 | step y hy h1 _ ih =>
  by_cases he : y.f0 = id
  ·
   rw [he]; exact .here
  ·
   obtain ⟨v, hv, hv0, hv1⟩ := hm y hy he
   rw [← hv0]
   exact .step v hv (by rw [hv1]; exact h1) (by rw [hv1]; exact ih)
theorem filter_ne {l : List Int} {a : Int} (h : a ∉ l) : l.filter (fun k => k != a) = l := List.filter_eq_self.2 (fun x hx => by simp; intro e; exact h (e ▸ hx))
theorem ins_out {l : List Int} {a : Int} (n : Nat) (h : a ∉ l) : (l.take n ++ a :: l.drop n).filter (fun k => k != a) = l := by
 have h1 : a ∉ l.take n := fun hm => h (List.mem_of_mem_take hm)
 have h2 : a ∉ l.drop n := fun hm => h (List.mem_of_mem_drop hm)
 rw [List.filter_append, filter_ne h1, List.filter_cons_of_neg (by simp), filter_ne h2, List.take_append_drop]
theorem back_is {ns : List Nd} {r nx id par at_ : Int} (hv : ValidD ns r nx) {x h : Nd} (hx : x ∈ ns) (hx0 : x.f0 = id) (hx1 : x.f1 ≠ 0) (hh : h ∈ ns) (hh0 : h.f0 = x.f1) {pre post : List Int} (hk : h.f6 = pre ++ id :: post) (hpre : id ∉ pre)
  {p q : S45} (hp0 : p.f0 = 2) (hp1 : p.f1 = id) (hp2 : p.f2 = par) (hp3 : p.f3 = at_) (he : (doE ⟨ns, r, nx⟩ p).1 = 0) (hq0 : q.f0 = 2) (hq1 : q.f1 = id) (hq2 : q.f2 = x.f1) (hq3 : q.f3 = (pre.length : Int)) :
  doE (doE ⟨ns, r, nx⟩ p).2 q = (0, ⟨ns, r, nx⟩) := by
 have hv2 := doE_valid (s := ⟨ns, r, nx⟩) (p := p) hv he
 have hid0 : id ≠ 0 := by have := (hv.ids x hx).1; omega
 -- the first patch
 have e1 : doE ⟨ns, r, nx⟩ p = hangE ⟨ns, r, nx⟩ p := by unfold doE; rw [if_neg (by omega), if_pos hp0]
 rw [e1] at he hv2 ⊢
 have hnx : nodeOf ns p.f1 = some x := (nodeOf_iff hv.rises).2 ⟨hx, by rw [hp1]; exact hx0⟩
 unfold hangE at he hv2 ⊢
 cases hy : nodeOf ns p.f2 with
 | none =>
  simp only [hnx, hy] at he
  cases he
 | some y =>
  simp only [hnx, hy] at he hv2 ⊢
  split at he
  ·
   cases he
  rename_i g1
  split at he
  ·
   cases he
  rename_i g2
  split at he
  ·
   cases he
  rename_i g3
  split at he
  ·
   cases he
  rename_i g4
  split at he
  ·
   cases he
  rename_i g5
  rw [if_neg g1, if_neg g2, if_neg g3, if_neg g4, if_neg g5] at hv2 ⊢
  obtain ⟨hL1, hr1, -⟩ := nodeOf_some hnx
  obtain ⟨hL2, hr2, hy0⟩ := nodeOf_some hy
  rw [rd_lt hL1] at hr1
  rw [rd_lt hL2] at hr2
  have hF := hungF_map hv.rises hL1 hL2 p.f3
  simp only [hr1, hr2] at hF
  rw [hx0, hy0] at hF
  rw [← hp1] at hF
  simp only [hF] at hv2 ⊢
  rw [hp1, hp2] at hv2 ⊢
  obtain ⟨ms, hms⟩ : ∃ ms, (ns.map (cutN id x.f1)).map (insN p.f3.toNat id par) = ms := ⟨_, rfl⟩
  rw [hms] at hv2 ⊢
  have hv2' : ValidD ms r nx := hv2
  -- the node and its old home behind it
  have hmem : ∀ z ∈ ns, insN p.f3.toNat id par (cutN id x.f1 z) ∈ ms := fun z hz => by rw [← hms]; exact List.mem_map_of_mem (List.mem_map_of_mem hz)
  have hof : ∀ v ∈ ms, ∃ z ∈ ns, v = insN p.f3.toNat id par (cutN id x.f1 z) := fun v hv => by
   rw [← hms] at hv
   obtain ⟨u, hu, rfl⟩ := List.mem_map.1 hv
   obtain ⟨z, hz, rfl⟩ := List.mem_map.1 hu
   exact ⟨z, hz, rfl⟩
  have hne : x.f1 ≠ id := fun hc => by
   obtain ⟨d, hd⟩ := hv.rank
   have := hd x hx hx1
   rw [hx0, hc] at this
   omega
  have hkids : ∀ z ∈ ns, z.f0 ≠ x.f1 → id ∉ z.f6 := fun z hz hz1 hm => by
   obtain ⟨v, hv', hv0, hv1⟩ := hv.kids z hz id hm
   have := rises_inj hv.rises hv' hx (by rw [hv0, hx0])
   rw [this] at hv1
   exact hz1 hv1.symm
  have hpost : id ∉ post := fun hm => by
   have := hv.once h hh
   rw [hk, List.nodup_append] at this
   exact (List.nodup_cons.1 this.2.1).1 hm
  have hcut : h.f6.filter (fun k => k != id) = pre ++ post := by
   rw [hk, List.filter_append, filter_ne hpre, List.filter_cons_of_neg (by simp), filter_ne hpost]
  have hpp : id ∉ pre ++ post := by simp [hpre, hpost]
  have hnx2 : nodeOf ms id = some (insN p.f3.toNat id par (cutN id x.f1 x)) := (nodeOf_iff hv2'.rises).2 ⟨hmem x hx, hx0⟩
  have hnh2 : nodeOf ms x.f1 = some (insN p.f3.toNat id par (cutN id x.f1 h)) := (nodeOf_iff hv2'.rises).2 ⟨hmem h hh, hh0⟩
  have htag : h.f2.toList.isEmpty = false := by
   cases ht : h.f2.toList.isEmpty with
   | false => rfl
   | true => have := hv.text h hh ht; rw [hk] at this; simp at this
  have hfew := hv.few h hh
  rw [hk, List.length_append, List.length_cons] at hfew
  obtain ⟨x2, hx2⟩ : ∃ x2, insN p.f3.toNat id par (cutN id x.f1 x) = x2 := ⟨_, rfl⟩
  obtain ⟨h2, hh2⟩ : ∃ h2, insN p.f3.toNat id par (cutN id x.f1 h) = h2 := ⟨_, rfl⟩
  have hx21 : x2.f1 = par := by rw [← hx2]; show (if x.f0 = id then par else _) = par; rw [if_pos hx0]
  have hx20 : x2.f0 = id := by rw [← hx2]; exact hx0
  have hh20 : h2.f0 = x.f1 := by rw [← hh2]; exact hh0
  have hh22 : h2.f2 = h.f2 := by rw [← hh2]; rfl
  have hh26 : h2.f6 = if x.f1 = par then (pre ++ post).take p.f3.toNat ++ id :: (pre ++ post).drop p.f3.toNat else pre ++ post := by
   rw [← hh2]
   show (if h.f0 = par then (if h.f0 = x.f1 then h.f6.filter (fun k => k != id) else h.f6).take p.f3.toNat ++ id :: (if h.f0 = x.f1 then h.f6.filter (fun k => k != id) else h.f6).drop p.f3.toNat else (if h.f0 = x.f1 then h.f6.filter (fun k => k != id) else h.f6)) = _
   rw [if_pos hh0, hcut, hh0]
  have hoth : others x2 h2 x.f1 = (pre.length : Int) + post.length := by
   unfold others
   rw [hx21, hh26]
   by_cases hc : x.f1 = par
   ·
    rw [if_pos hc.symm, if_pos hc, List.length_append, List.length_cons, List.length_take, List.length_drop, List.length_append]
    omega
   ·
    rw [if_neg (fun h => hc h.symm), if_neg hc, List.length_append]
    omega
  rw [hx2] at hnx2
  rw [hh2] at hnh2
  have hup : ¬ upF ms id (ms.length + 1) x.f1 = true := fun hu => by
   obtain ⟨d, hd⟩ := hv.rank
   have h1 := up_of hv2' _ _ hu
   have h2 := up_moved (ns := ns) (fun y hy hne => by
    obtain ⟨z, hz, rfl⟩ := hof y hy
    refine ⟨z, hz, rfl, ?_⟩
    have hz0 : z.f0 ≠ id := hne
    show z.f1 = (if z.f0 = id then par else (if z.f0 = id then 0 else z.f1))
    rw [if_neg hz0, if_neg hz0]) h1
   have h3 := up_rank hd h2
   have h4 := hd x hx hx1
   rw [hx0] at h4
   omega
  -- the second patch
  obtain ⟨hM1, hs1, -⟩ := nodeOf_some hnx2
  obtain ⟨hM2, hs2, -⟩ := nodeOf_some hnh2
  rw [rd_lt hM1] at hs1
  rw [rd_lt hM2] at hs2
  have hG := hungF_map hv2'.rises hM1 hM2 q.f3
  simp only [hs1, hs2] at hG
  rw [hx20, hh20, hx21] at hG
  show doE (⟨ms, r, nx⟩ : S28) q = _
  unfold doE
  rw [if_neg (by omega), if_pos hq0]
  unfold hangE
  rw [hq1, hq2, hq3]
  simp only [hnx2, hnh2]
  rw [if_neg (by rw [hh22, htag]; decide), if_neg hup, if_neg (by rw [← hp1]; exact g3), if_neg (by rw [hoth]; omega), if_neg (by rw [hoth]; omega)]
  rw [hq3] at hG
  rw [hG, ← hms, List.map_map, List.map_map, List.map_map]
  refine Prod.ext rfl ?_
  show (⟨_, r, nx⟩ : S28) = ⟨ns, r, nx⟩
  congr 1
  refine (List.map_congr_left (fun z hz => ?_)).trans (List.map_id ns)
  show insN (pre.length : Int).toNat id x.f1 (cutN id par (insN p.f3.toNat id par (cutN id x.f1 z))) = z
  have hz6 : (if z.f0 = x.f1 then (if z.f0 = par then ((if z.f0 = par then (if z.f0 = x.f1 then z.f6.filter (fun k => k != id) else z.f6).take p.f3.toNat ++ id :: (if z.f0 = x.f1 then z.f6.filter (fun k => k != id) else z.f6).drop p.f3.toNat else (if z.f0 = x.f1 then z.f6.filter (fun k => k != id) else z.f6))).filter (fun k => k != id) else (if z.f0 = par then (if z.f0 = x.f1 then z.f6.filter (fun k => k != id) else z.f6).take p.f3.toNat ++ id :: (if z.f0 = x.f1 then z.f6.filter (fun k => k != id) else z.f6).drop p.f3.toNat else (if z.f0 = x.f1 then z.f6.filter (fun k => k != id) else z.f6))).take (pre.length : Int).toNat ++ id :: (if z.f0 = par then ((if z.f0 = par then (if z.f0 = x.f1 then z.f6.filter (fun k => k != id) else z.f6).take p.f3.toNat ++ id :: (if z.f0 = x.f1 then z.f6.filter (fun k => k != id) else z.f6).drop p.f3.toNat else (if z.f0 = x.f1 then z.f6.filter (fun k => k != id) else z.f6))).filter (fun k => k != id) else (if z.f0 = par then (if z.f0 = x.f1 then z.f6.filter (fun k => k != id) else z.f6).take p.f3.toNat ++ id :: (if z.f0 = x.f1 then z.f6.filter (fun k => k != id) else z.f6).drop p.f3.toNat else (if z.f0 = x.f1 then z.f6.filter (fun k => k != id) else z.f6))).drop (pre.length : Int).toNat else (if z.f0 = par then ((if z.f0 = par then (if z.f0 = x.f1 then z.f6.filter (fun k => k != id) else z.f6).take p.f3.toNat ++ id :: (if z.f0 = x.f1 then z.f6.filter (fun k => k != id) else z.f6).drop p.f3.toNat else (if z.f0 = x.f1 then z.f6.filter (fun k => k != id) else z.f6))).filter (fun k => k != id) else (if z.f0 = par then (if z.f0 = x.f1 then z.f6.filter (fun k => k != id) else z.f6).take p.f3.toNat ++ id :: (if z.f0 = x.f1 then z.f6.filter (fun k => k != id) else z.f6).drop p.f3.toNat else (if z.f0 = x.f1 then z.f6.filter (fun k => k != id) else z.f6)))) = z.f6 := by
   by_cases c1 : z.f0 = x.f1
   ·
    have := rises_inj hv.rises hz hh (c1.trans hh0.symm)
    subst this
    have e3 : (pre.length : Int).toNat = pre.length := by omega
    simp only [if_pos c1, hcut, e3]
    by_cases c2 : z.f0 = par
    ·
     simp only [if_pos c2, ins_out _ hpp]
     rw [List.take_left, List.drop_left, hk]
    ·
     simp only [if_neg c2]
     rw [List.take_left, List.drop_left, hk]
   ·
    have hi := hkids z hz c1
    simp only [if_neg c1]
    by_cases c2 : z.f0 = par
    ·
     simp only [if_pos c2, ins_out _ hi]
    ·
     simp only [if_neg c2]
  have hz1 : (if z.f0 = id then x.f1 else (if z.f0 = id then 0 else (if z.f0 = id then par else (if z.f0 = id then 0 else z.f1)))) = z.f1 := by
   by_cases c1 : z.f0 = id
   ·
    have := rises_inj hv.rises hz hx (c1.trans hx0.symm)
    rw [if_pos c1, this]
   ·
    rw [if_neg c1, if_neg c1, if_neg c1, if_neg c1]
  obtain ⟨z0, z1, z2, z3, z4, z5, z6⟩ := z
  unfold insN cutN
  simp only at hz1 hz6 ⊢
  rw [hz1, hz6]
section
variable (l : List S64) (r nx id par at_ : Int)
theorem loop_is (hf : FitD l) (x : S64) (hx : x ∈ l) (hx0 : x.f0 = id) (hx1 : x.f1 ≠ 0) (h : S64) (hh : h ∈ l) (hh0 : h.f0 = x.f1) : ∀ (rest pre : List Int), h.f6 = pre ++ rest → id ∈ rest → id ∉ pre → Ev (fun k => fanlightlaw10_DomBack.l0 k id par at_ (pre.length : Int) l r nx h.f0 h.f1 h.f2 h.f3 h.f4 h.f5 h.f6) true
 | [], pre, he, hi, hp => by cases hi
 | z :: zs, pre, he, hi, hp => by
  refine Ev.step (fun k => rfl) ?_
  have hlen : h.f6.length = pre.length + 1 + zs.length := by rw [he]; simp; omega
  have hrd : rd h.f6 (pre.length : Int) = z := by
   unfold rd
   rw [Int.toNat_natCast, he, List.getD_eq_getElem?_getD, List.getElem?_append_right (Nat.le_refl _), Nat.sub_self]
   rfl
  have hk := hf.k h hh
  by_cases hz : z = id
  ·
   subst hz
   simp only [fanlightlaw10_DomBack.l0, if_pos (show (0 : Int) ≤ (pre.length : Int) by omega), if_pos (show (pre.length : Int) < (h.f6.length : Int) by omega), hrd, if_true]
   refine Ev.bind (of_is r nx hf) ?_
   have hki : ∀ x ∈ l.map toN, ∀ k ∈ x.f6, -9223372036854775808 ≤ k ∧ k ≤ 9223372036854775807 := fun x hx => by
    obtain ⟨v, hv, rfl⟩ := List.mem_map.1 hx
    exact hf.i v hv
   obtain ⟨p, hpp⟩ : ∃ p : S45, (⟨2, z, par, at_, ⟨#[]⟩, ⟨#[]⟩, ⟨#[]⟩, ⟨#[]⟩, ⟨#[]⟩⟩ : S45) = p := ⟨_, rfl⟩
   have hA : dom_Apply.f (l.map toN) r nx 2 z par at_ ⟨#[]⟩ ⟨#[]⟩ ⟨#[]⟩ ⟨#[]⟩ ⟨#[]⟩ = some ((applyE ⟨l.map toN, r, nx⟩ p).2.f0, (applyE ⟨l.map toN, r, nx⟩ p).2.f1, (applyE ⟨l.map toN, r, nx⟩ p).2.f2, (applyE ⟨l.map toN, r, nx⟩ p).1) := by
    unfold dom_Apply.f
    rw [if_pos hki, hpp]
   simp only [hA, Option.bind_some, fanlightlaw10_num.f]
   rcases applyE_cases (s := ⟨l.map toN, r, nx⟩) (p := p) with ⟨h1, h2⟩ | ⟨h1, hv, h3, h2⟩
   ·
    simp only [if_neg h1, h2]
    exact Ev.now _
   ·
    simp only [if_pos h1, h2]
    have hv2 := doE_valid hv h3
    have hki2 : ∀ x ∈ (doE ⟨l.map toN, r, nx⟩ p).2.f0, ∀ k ∈ x.f6, -9223372036854775808 ≤ k ∧ k ≤ 9223372036854775807 := fun x hx k hk => by
     obtain ⟨y, hy, hy0, _⟩ := hv2.kids x hx k hk
     have := hv2.ids y hy
     have := hv2.nx2
     omega
    obtain ⟨q, hqq⟩ : ∃ q : S45, (⟨2, z, h.f0, (pre.length : Int), ⟨#[]⟩, ⟨#[]⟩, ⟨#[]⟩, ⟨#[]⟩, ⟨#[]⟩⟩ : S45) = q := ⟨_, rfl⟩
    have hB := back_is (x := toN x) (h := toN h) (at_ := at_) (par := par) hv (List.mem_map_of_mem hx) hx0 hx1 (List.mem_map_of_mem hh) hh0 (pre := pre) (post := zs) he hp (p := p) (q := q) (by rw [← hpp]) (by rw [← hpp]) (by rw [← hpp]) (by rw [← hpp]) h3 (by rw [← hqq]) (by rw [← hqq]) (by rw [← hqq]; exact hh0) (by rw [← hqq])
    have hA2 : applyE (doE ⟨l.map toN, r, nx⟩ p).2 q = (0, ⟨l.map toN, r, nx⟩) := by
     unfold applyE
     rw [if_neg (by rw [valid_checkE hv2]; simp), if_neg (by rw [hB]; simp), hB]
    have hA3 : dom_Apply.f (doE ⟨l.map toN, r, nx⟩ p).2.f0 (doE ⟨l.map toN, r, nx⟩ p).2.f1 (doE ⟨l.map toN, r, nx⟩ p).2.f2 2 z h.f0 (pre.length : Int) ⟨#[]⟩ ⟨#[]⟩ ⟨#[]⟩ ⟨#[]⟩ ⟨#[]⟩ = some (l.map toN, r, nx, 0) := by
     unfold dom_Apply.f
     rw [if_pos hki2, hqq]
     have e : (⟨(doE ⟨l.map toN, r, nx⟩ p).2.f0, (doE ⟨l.map toN, r, nx⟩ p).2.f1, (doE ⟨l.map toN, r, nx⟩ p).2.f2⟩ : S28) = (doE ⟨l.map toN, r, nx⟩ p).2 := rfl
     rw [e, hA2]
    simp only [hA3, Option.bind_some, if_true, fanlightlaw10_Alike.f, alike_refl]
    exact Ev.now _
  ·
   have w2 : wrap64 ((pre.length : Int) + 1) = (((pre ++ [z]).length : Nat) : Int) := by rw [List.length_append]; exact wI (by omega) (by omega)
   simp only [fanlightlaw10_DomBack.l0, if_pos (show (0 : Int) ≤ (pre.length : Int) by omega), if_pos (show (pre.length : Int) < (h.f6.length : Int) by omega), hrd, if_neg hz, w2]
   exact loop_is hf x hx hx0 hx1 h hh hh0 zs (pre ++ [z]) (by rw [he]; simp) ((List.mem_cons.1 hi).resolve_left (fun e => hz e.symm)) (by simp [hp]; exact fun e => hz e.symm)
end
theorem DomBack (l : List S64) (r nx id par at_ : Int) (hf : FitD l) : ∃ k, fanlightlaw10_DomBack.f k l r nx id par at_ = some true := by
 refine Ev.rounds ?_
 unfold fanlightlaw10_DomBack.f
 simp only [alive_is, Option.bind_some, if_true]
 have hn := hf.n
 refine Ev.bind (placeR_l0 l r nx id (by omega) l [] rfl) ?_
 simp only [fanlightref10_Check.f, Option.bind_some, List.length_nil, Int.natCast_zero]
 by_cases hck : checkR l r nx = 0
 rotate_left
 ·
  simp only [if_neg hck]
  refine Ev.step (fun k => rfl) ?_
  simp only [fanlightlaw10_DomBack.j0, if_true]
  exact Ev.now _
 simp only [if_pos hck]
 rcases placeR_cases id l with ⟨hp, -⟩ | ⟨t, ht, hp, hid, hm⟩
 ·
  simp only [hp, if_pos (show (-1 : Int) < 0 by decide)]
  refine Ev.step (fun k => rfl) ?_
  simp only [fanlightlaw10_DomBack.j0, if_true]
  exact Ev.now _
 simp only [hp, if_neg (show ¬ (t : Int) < 0 by omega), if_pos (show (0 : Int) ≤ (t : Int) by omega), if_pos (show (t : Int) < (l.length : Int) by omega)]
 refine Ev.step (fun k => rfl) ?_
 by_cases h1 : (rd_T64 l (t : Int)).f1 = 0
 ·
  simp only [fanlightlaw10_DomBack.j0, beq_iff_eq.2 h1, if_true]
  exact Ev.now _
 simp only [fanlightlaw10_DomBack.j0, beq_eq_false_iff_ne.2 h1, Bool.false_eq_true, if_false, if_pos (show (0 : Int) ≤ (t : Int) by omega), if_pos (show (t : Int) < (l.length : Int) by omega)]
 refine Ev.bind (placeR_l0 l r nx _ (by omega) l [] rfl) ?_
 obtain ⟨t2, ht2, hp2, hh0, hhm, hin⟩ := checkR_home hck hm h1
 simp only [List.length_nil, Int.natCast_zero, hp2, if_pos (show (0 : Int) ≤ (t2 : Int) by omega), if_pos (show (t2 : Int) < (l.length : Int) by omega)]
 rw [hid] at hin
 have := loop_is l r nx id par at_ hf (rd_T64 l (t : Int)) hm hid h1 (rd_T64 l (t2 : Int)) hhm hh0 (rd_T64 l (t2 : Int)).f6 [] rfl hin (by simp)
 exact this
end Go.Proofs.Ytleofbidijbahaa.PureBack
