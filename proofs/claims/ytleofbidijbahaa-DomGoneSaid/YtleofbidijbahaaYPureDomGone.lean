/- What the print's words and the walks are, as far as this claim names them. -/
import Derived.Test.YtleofbidijbahaaYDomEv
import Derived.Test.YtleofbidijbahaaYD59
namespace Go.Proofs.Ytleofbidijbahaa.PureGone
set_option linter.unusedVariables false
set_option linter.unusedSimpArgs false
open Go.RowKit Go.Proofs.Ytleofbidijbahaa.D Go.Proofs.YtleofbidijbahaaW.PrintWords Go.Proofs.YtleofbidijbahaaW.PrintLast DomEv
theorem rd63_at {l pre rest : List S63} {x : S63} (h : l = pre ++ x :: rest) : rd_T63 l (pre.length : Int) = x := by
 unfold rd_T63
 rw [Int.toNat_natCast, h, List.getD_eq_getElem?_getD, List.getElem?_append_right (Nat.le_refl _), Nat.sub_self]
 rfl
theorem rd_at {l pre rest : List Int} {x : Int} (h : l = pre ++ x :: rest) : rd l (pre.length : Int) = x := by
 unfold rd
 rw [Int.toNat_natCast, h, List.getD_eq_getElem?_getD, List.getElem?_append_right (Nat.le_refl _), Nat.sub_self]
 rfl
theorem placeI_some (id : Int) : ∀ (l : List S64) (i : Int), (∃ z ∈ l, z.f0 = id) → ∃ pre z post, l = pre ++ z :: post ∧ z.f0 = id ∧ placeI id l i = i + pre.length
 | [], i, h => by obtain ⟨z, hz, _⟩ := h; cases hz
 | z :: zs, i, h => by
  unfold placeI
  by_cases hz : z.f0 = id
  ·
   rw [if_pos hz]
   exact ⟨[], z, zs, rfl, hz, by simp⟩
  ·
   rw [if_neg hz]
   obtain ⟨y, hy, hy0⟩ := h
   rcases List.mem_cons.1 hy with rfl | hy
   ·
    exact absurd hy0 hz
   ·
    obtain ⟨pre, x, post, he, hx, hp⟩ := placeI_some id zs (i + 1) ⟨y, hy, hy0⟩
    exact ⟨z :: pre, x, post, by rw [he]; rfl, hx, by rw [hp, List.length_cons]; omega⟩
theorem gone_sub {ns : List Nd} {r nx id : Int} {G L : List Int} (h : ValidD ns r nx) (hG : GoneInv ns id [] G) (hL : GoneInv ns id [] L) (hid : id ∈ L) (hno : ∀ x ∈ ns, x.f0 = id → x.f1 = 0) : ∀ x ∈ ns, x.f0 ∈ G → x.f0 ∈ L := by
 obtain ⟨d, hd⟩ := h.rank
 have key : ∀ (n : Nat) (x : Nd), x ∈ ns → d x.f0 ≤ n → x.f0 ∈ G → x.f0 ∈ L := by
  intro n
  induction n with
  | zero =>
   intro x hx hn hg
   rcases hG.up x hx (by simpa using hg) with he | hp
   ·
    rw [he]; exact hid
   ·
    by_cases h1 : x.f1 = 0
    ·
     obtain ⟨y, hy, hy0⟩ := hG.node x.f1 (by simpa using hp)
     have := (h.ids y hy).1
     omega
    ·
     have := hd x hx h1
     omega
  | succ n ih =>
   intro x hx hn hg
   rcases hG.up x hx (by simpa using hg) with he | hp
   ·
    rw [he]; exact hid
   ·
    have h1 : x.f1 ≠ 0 := fun h1 => by
     obtain ⟨y, hy, hy0⟩ := hG.node x.f1 (by simpa using hp)
     have := (h.ids y hy).1
     omega
    obtain ⟨p, hpm, hp0, hk⟩ := h.home x hx h1
    have hlt := hd x hx h1
    have := ih p hpm (by rw [hp0]; omega) (by rw [hp0]; exact hp)
    simpa using hL.down p hpm this _ hk
 exact fun x hx hg => key _ x hx (Nat.le_refl _) hg
theorem doE_away {s : S28} {p : S45} (h : ValidD s.f0 s.f1 s.f2) (hp : p.f0 = 3) (he : (doE s p).1 = 0) : ∃ x G, x ∈ s.f0 ∧ x.f0 = p.f1 ∧ x.f0 ∈ G ∧ GoneInv (s.f0.map (cutN x.f0 x.f1)) x.f0 [] G ∧ (doE s p).2.f0 = (s.f0.map (cutN x.f0 x.f1)).filter (fun z => !G.contains z.f0) ∧ (doE s p).2.f2 = s.f2 := by
 unfold doE at he ⊢
 rw [if_neg (by omega), if_neg (by omega), if_neg (by omega), if_neg (by omega)] at he ⊢
 cases hx : nodeOf s.f0 p.f1 with
 | none => rw [hx] at he; cases he
 | some x =>
  simp only
  rw [if_pos hp]
  obtain ⟨hL, hr, hx0⟩ := nodeOf_some hx
  rw [rd_lt hL] at hr
  obtain ⟨G, hG, hm, hI⟩ := goneOf_spec h hL
  simp only [hr] at hI hm
  refine ⟨x, G, (nodeOf_mem hx).1, hx0, hm, hI, ?_, rfl⟩
  rw [hG]
  show (offF s.f0 (lowP s.f0 p.f1)).filter (fun x => !G.contains x.f0) = _
  have hO := offF_map h.rises hL
  simp only [hr] at hO
  rw [hO]
section
variable (l : List S64) (r nx : Int) (t : List S63) (r2 n2 : Int) (L : List Int)
theorem l2_is (hL : L.length ≤ 1000000) (hl : l.length ≤ 1024) {pre0 post0 : List S64} {z : S64} (hz : l = pre0 ++ z :: post0) (n : Int) (R : Bool)
  (h1 : z.f0 ∈ L → Ev (fun k => fanlightlaw10_DomGone.l1 k L n (wrap64 ((pre0.length : Int) + 1)) l r nx t r2 n2) R)
  (h2 : z.f0 ∉ L → 0 ≤ n ∧ n < (t.length : Int) ∧ (rd_T63 t n).f0 = z.f0 ∧ (rd_T63 t n).f2 = z.f2 ∧ (rd_T63 t n).f4 = z.f4 ∧ (rd_T63 t n).f1 = z.f1 ∧ Ev (fun k => fanlightlaw10_DomGone.l1 k L (wrap64 (n + 1)) (wrap64 ((pre0.length : Int) + 1)) l r nx t r2 n2) R) :
  ∀ (rest pre : List Int) (is : Bool), L = pre ++ rest → is = decide (z.f0 ∈ pre) → Ev (fun k => fanlightlaw10_DomGone.l2 k L n (pre0.length : Int) is (pre.length : Int) l r nx t r2 n2) R
 | [], pre, is, h, his => by
  refine Ev.step (fun k => rfl) ?_
  have e : L = pre := by simpa using h
  have hlt : (pre0.length : Int) < (l.length : Int) := by rw [hz]; simp; omega
  cases is with
  | true =>
   have hm : z.f0 ∈ L := by rw [e]; exact of_decide_eq_true his.symm
   simp only [fanlightlaw10_DomGone.l2, if_neg (show ¬ (pre.length : Int) < (L.length : Int) by rw [e]; omega), if_true]
   exact h1 hm
  | false =>
   have hm : z.f0 ∉ L := by rw [e]; exact of_decide_eq_false his.symm
   obtain ⟨g0, g1, g2, g3, g4, g5, g6⟩ := h2 hm
   simp only [fanlightlaw10_DomGone.l2, if_neg (show ¬ (pre.length : Int) < (L.length : Int) by rw [e]; omega), Bool.false_eq_true, if_false, if_neg (show ¬ n ≥ (t.length : Int) by omega), if_pos g0, if_pos g1, if_pos (show (0 : Int) ≤ (pre0.length : Int) by omega), if_pos hlt, rd64_at hz, if_pos g2, g3, g4, if_true, if_pos g5]
   exact g6
 | x :: xs, pre, is, h, his => by
  refine Ev.step (fun k => rfl) ?_
  have hlen : L.length = pre.length + 1 + xs.length := by rw [h]; simp; omega
  have hlt : (pre0.length : Int) < (l.length : Int) := by rw [hz]; simp; omega
  have w2 : wrap64 ((pre.length : Int) + 1) = (((pre ++ [x]).length : Nat) : Int) := by rw [List.length_append]; exact wI (by omega) (by omega)
  cases is with
  | true =>
   have hm : z.f0 ∈ pre := of_decide_eq_true his.symm
   simp only [fanlightlaw10_DomGone.l2, if_pos (show (pre.length : Int) < (L.length : Int) by omega), if_true, w2]
   exact l2_is hL hl hz n R h1 h2 xs (pre ++ [x]) true (by rw [h]; simp) (by symm; exact decide_eq_true (List.mem_append_left _ hm))
  | false =>
   have hm : z.f0 ∉ pre := of_decide_eq_false his.symm
   simp only [fanlightlaw10_DomGone.l2, if_pos (show (pre.length : Int) < (L.length : Int) by omega), Bool.false_eq_true, if_false, if_pos (show (0 : Int) ≤ (pre.length : Int) by omega), if_pos (show (0 : Int) ≤ (pre0.length : Int) by omega), if_pos hlt, rd_at h, rd64_at hz, w2]
   refine l2_is hL hl hz n R h1 h2 xs (pre ++ [x]) _ (by rw [h]; simp) ?_
   rw [Bool.eq_iff_iff]
   simp only [beq_iff_eq, decide_eq_true_eq, List.mem_append, List.mem_singleton]
   constructor
   ·
    intro h; exact .inr h.symm
   ·
    rintro (h | h)
    ·
     exact absurd h hm
    ·
     exact h.symm
theorem l1_is (hL : L.length ≤ 1000000) (hl : l.length ≤ 1024) (htl : t.length ≤ 1024) (id pid : Int) (hid : id ∈ L) (hn2 : n2 = nx) : ∀ (rest pre : List S64) (tpre : List S63), l = pre ++ rest → t = tpre ++ (rest.map fun z => cutN id pid (toN z)).filter (fun z => !L.contains z.f0) → Ev (fun k => fanlightlaw10_DomGone.l1 k L (tpre.length : Int) (pre.length : Int) l r nx t r2 n2) true
 | [], pre, tpre, h, ht => by
  refine Ev.step (fun k => rfl) ?_
  have e : l = pre := by simpa using h
  have et : t = tpre := by simpa using ht
  simp only [fanlightlaw10_DomGone.l1, if_neg (show ¬ (pre.length : Int) < (l.length : Int) by rw [e]; omega), if_pos (show (tpre.length : Int) = (t.length : Int) by rw [et])]
  rw [hn2, show (nx == nx) = true by simp]
  exact Ev.now _
 | z :: zs, pre, tpre, h, ht => by
  refine Ev.step (fun k => rfl) ?_
  have hlen : l.length = pre.length + 1 + zs.length := by rw [h]; simp; omega
  have w2 : wrap64 ((pre.length : Int) + 1) = (((pre ++ [z]).length : Nat) : Int) := by rw [List.length_append]; exact wI (by omega) (by omega)
  simp only [fanlightlaw10_DomGone.l1, if_pos (show (pre.length : Int) < (l.length : Int) by omega)]
  refine l2_is l r nx t r2 n2 L hL hl h (tpre.length : Int) true (fun hm => ?_) (fun hm => ?_) L [] false rfl (by symm; exact decide_eq_false (by simp))
  ·
   rw [w2]
   refine l1_is hL hl htl id pid hid hn2 zs (pre ++ [z]) tpre (by rw [h]; simp) ?_
   rw [ht, List.map_cons, List.filter_cons_of_neg]
   show ¬ (!L.contains z.f0) = true
   simpa using hm
  ·
   rw [List.map_cons, List.filter_cons_of_pos (by show (!L.contains z.f0) = true; simpa using hm)] at ht
   have htlen : tpre.length < t.length := by rw [ht]; simp
   have hne : z.f0 ≠ id := fun he => hm (by rw [he]; exact hid)
   have w3 : wrap64 ((tpre.length : Int) + 1) = (((tpre ++ [cutN id pid (toN z)]).length : Nat) : Int) := by rw [List.length_append]; exact wI (by omega) (by omega)
   rw [rd63_at ht]
   refine ⟨by omega, by omega, rfl, rfl, rfl, if_neg hne, ?_⟩
   rw [w2, w3]
   exact l1_is hL hl htl id pid hid hn2 zs (pre ++ [z]) (tpre ++ [cutN id pid (toN z)]) (by rw [h]; simp) (by rw [ht]; simp)
end
theorem l0_is (l : List S64) (r nx : Int) (t : List S63) (r2 n2 : Int) (hv : ValidD (l.map toN) r nx) {x0 : Nd} (hx0 : x0 ∈ l.map toN) {d : Int → Nat} (hd : ∀ y ∈ l.map toN, y.f1 ≠ 0 → d y.f1 < d y.f0)
  (hend : ∀ L, GoneInv ((l.map toN).map (cutN x0.f0 x0.f1)) x0.f0 [] L.reverse → x0.f0 ∈ L → L.length ≤ 1024 → Ev (fun k => fanlightlaw10_DomGone.j1 k L l r nx t r2 n2) true) :
  ∀ (m : Nat) (q g : List Int), l.length - g.length ≤ m → GoneInv ((l.map toN).map (cutN x0.f0 x0.f1)) x0.f0 q g → x0.f0 ∈ q ++ g → (∀ v ∈ q ++ g, d x0.f0 ≤ d v) → Ev (fun k => fanlightlaw10_DomGone.l0 k (g.reverse ++ q) (g.length : Int) l r nx t r2 n2) true := by
 have hv1 := off_valid hv hx0
 have hid : ∀ x ∈ (l.map toN).map (cutN x0.f0 x0.f1), x.f0 = x0.f0 → x.f1 = 0 := fun x hx he => by
  obtain ⟨z, hz, rfl⟩ := List.mem_map.1 hx
  show (if z.f0 = x0.f0 then 0 else z.f1) = 0
  exact if_pos he
 have hll : l.length ≤ 1024 := by have := hv.len; simpa using this
 intro m
 induction m with
 | zero =>
  intro q g hm hI h0 hr
  have hlen := hI.len
  rw [List.length_map, List.length_map] at hlen
  have hq : q = [] := List.eq_nil_of_length_eq_zero (by omega)
  subst hq
  refine Ev.step (fun k => rfl) ?_
  simp only [fanlightlaw10_DomGone.l0, if_neg (show ¬ (g.length : Int) < ((g.reverse ++ []).length : Int) by simp)]
  rw [List.append_nil]
  exact hend g.reverse (by rw [List.reverse_reverse]; exact hI) (by simpa using h0) (by rw [List.length_reverse]; omega)
 | succ m ih =>
  intro q g hm hI h0 hr
  have hlen := hI.len
  rw [List.length_map, List.length_map] at hlen
  cases q with
  | nil =>
   refine Ev.step (fun k => rfl) ?_
   simp only [fanlightlaw10_DomGone.l0, if_neg (show ¬ (g.length : Int) < ((g.reverse ++ []).length : Int) by simp)]
   rw [List.append_nil]
   exact hend g.reverse (by rw [List.reverse_reverse]; exact hI) (by simpa using h0) (by rw [List.length_reverse]; simp at hlen; omega)
  | cons x q =>
   rw [List.length_cons] at hlen
   refine Ev.step (fun k => rfl) ?_
   have hglt : g.length < l.length := by omega
   obtain ⟨y, hy, hy0⟩ := hI.node x (by simp)
   obtain ⟨y1, hy1, rfl⟩ := List.mem_map.1 hy
   obtain ⟨y2, hy2, rfl⟩ := List.mem_map.1 hy1
   have hy0' : y2.f0 = x := hy0
   obtain ⟨pre, z, post, he, hz, hp⟩ := placeI_some x l 0 ⟨y2, hy2, hy0'⟩
   have hzl : z ∈ l := by rw [he]; simp
   have hzm : toN z ∈ l.map toN := List.mem_map_of_mem hzl
   have hyz : toN y2 = toN z := rises_inj hv.rises hy1 hzm (by show y2.f0 = z.f0; rw [hz]; exact hy0')
   rw [hyz] at hy hy0
   have hrx : rd (g.reverse ++ x :: q) (g.length : Int) = x := by
    have := rd_at (l := g.reverse ++ x :: q) (pre := g.reverse) rfl
    rw [List.length_reverse] at this
    exact this
   have hkid : (cutN x0.f0 x0.f1 (toN z)).f6 = z.f6 := by
    show (if z.f0 = x0.f1 then z.f6.filter (fun k => k != x0.f0) else z.f6) = z.f6
    rw [if_neg]
    intro hq
    have h1 : x0.f1 ≠ 0 := by have := (hv.ids _ hzm).1; rw [← hq]; show z.f0 ≠ 0; have h3 : 1 ≤ z.f0 := this; omega
    have h2 := hd x0 hx0 h1
    have h3 := hr x (by simp)
    rw [← hz, hq] at h3
    omega
   have hN := hI.step hv1 hid hy hy0
   rw [hkid] at hN
   have hNl := hN.len
   rw [List.length_map, List.length_map, List.length_append, List.length_cons] at hNl
   have w2 : wrap64 ((g.length : Int) + 1) = (((x :: g).length : Nat) : Int) := by rw [List.length_cons]; exact wI (by omega) (by omega)
   have hap : g.reverse ++ x :: q ++ z.f6 = (x :: g).reverse ++ (q ++ z.f6) := by simp
   simp only [fanlightlaw10_DomGone.l0, if_pos (show (g.length : Int) < ((g.reverse ++ x :: q).length : Int) by simp; omega), if_pos (show (g.length : Int) < (l.length : Int) by omega), if_pos (show (0 : Int) ≤ (g.length : Int) by omega), hrx]
   refine Ev.bind (place_is l r nx x (by omega)) ?_
   rw [hp]
   have hpl : pre.length < l.length := by rw [he]; simp
   have hrd : rd_T64 l (0 + (pre.length : Int)) = z := by rw [Int.zero_add]; exact rd64_at he
   simp only [if_pos (show (0 : Int) ≤ 0 + (pre.length : Int) by omega), if_pos (show 0 + (pre.length : Int) < (l.length : Int) by omega), hrd, if_pos (show (g.reverse ++ x :: q).length + z.f6.length < 17592186044416 by simp; omega), hap, w2]
   refine ih (q ++ z.f6) (x :: g) (by rw [List.length_cons]; omega) hN ?_ (fun v hm => ?_)
   ·
    simp only [List.mem_append, List.mem_cons] at h0 ⊢
    rcases h0 with (h | h) | h
    ·
     exact .inr (.inl h)
    ·
     exact .inl (.inl h)
    ·
     exact .inr (.inr h)
   ·
    simp only [List.mem_append, List.mem_cons] at hm
    rcases hm with (h | h) | h | h
    ·
     exact hr v (by simp [h])
    ·
     obtain ⟨w, hw, hw0, hw1⟩ := hv.kids (toN z) hzm v h
     have hzp := (hv.ids _ hzm).1
     have h2 := hd w hw (by rw [hw1]; omega)
     rw [hw0, hw1] at h2
     have h3 := hr x (by simp)
     rw [← hz] at h3
     have h4 : d (toN z).f0 = d z.f0 := rfl
     omega
    ·
     rw [h]; exact hr x (by simp)
    ·
     exact hr v (by simp [h])
theorem DomGone (l : List S64) (r nx id : Int) (hf : FitD l) : ∃ k, fanlightlaw10_DomGone.f k l r nx id = some true := by
 refine Ev.rounds ?_
 unfold fanlightlaw10_DomGone.f
 simp only [alive_is, Option.bind_some, if_true]
 refine Ev.bind (of_is r nx hf) ?_
 have hki : ∀ x ∈ l.map toN, ∀ k ∈ x.f6, -9223372036854775808 ≤ k ∧ k ≤ 9223372036854775807 := fun x hx => by
  obtain ⟨z, hz, rfl⟩ := List.mem_map.1 hx
  exact hf.i z hz
 obtain ⟨s, hs⟩ : ∃ s : S28, (⟨l.map toN, r, nx⟩ : S28) = s := ⟨_, rfl⟩
 obtain ⟨p, hp⟩ : ∃ p : S45, (⟨3, id, 0, 0, ⟨#[]⟩, ⟨#[]⟩, ⟨#[]⟩, ⟨#[]⟩, ⟨#[]⟩⟩ : S45) = p := ⟨_, rfl⟩
 have hA : dom_Apply.f (l.map toN) r nx 3 id 0 0 ⟨#[]⟩ ⟨#[]⟩ ⟨#[]⟩ ⟨#[]⟩ ⟨#[]⟩ = some ((applyE s p).2.f0, (applyE s p).2.f1, (applyE s p).2.f2, (applyE s p).1) := by
  unfold dom_Apply.f
  rw [if_pos hki, hs, hp]
 simp only [hA, Option.bind_some, fanlightlaw10_num.f]
 rcases applyE_cases (s := s) (p := p) with ⟨h1, h2⟩ | ⟨h1, hv, h3, h2⟩
 ·
  simp only [if_neg h1, h2]
  exact Ev.now _
 ·
  simp only [if_pos h1, h2]
  have hs0 : s.f0 = l.map toN := by rw [← hs]
  have hs1 : s.f1 = r := by rw [← hs]
  have hs2 : s.f2 = nx := by rw [← hs]
  have hp0 : p.f0 = 3 := by rw [← hp]
  have hp1 : p.f1 = id := by rw [← hp]
  obtain ⟨x0, G, hx, hx0, hxG, hI, ht, hn2⟩ := doE_away hv hp0 h3
  rw [hs0, hs1, hs2] at hv
  rw [hs0] at hx hI ht
  rw [hs2] at hn2
  rw [hp1] at hx0
  obtain ⟨d, hd⟩ := hv.rank
  have hll : l.length ≤ 1024 := by have := hv.len; simpa using this
  have hv1 := off_valid hv hx
  have hid : ∀ x ∈ (l.map toN).map (cutN x0.f0 x0.f1), x.f0 = x0.f0 → x.f1 = 0 := fun x hx he => by
   obtain ⟨z, hz, rfl⟩ := List.mem_map.1 hx
   show (if z.f0 = x0.f0 then 0 else z.f1) = 0
   exact if_pos he
  have key := l0_is l r nx (doE s p).2.f0 (doE s p).2.f1 (doE s p).2.f2 hv hx hd (fun L hL hm hlen => ?_) l.length [x0.f0] [] (by simp) ⟨by simp, fun z hz => by simp at hz; exact ⟨cutN x0.f0 x0.f1 x0, List.mem_map_of_mem hx, hz.symm⟩, fun x _ hm => by simp at hm; exact .inl hm, fun x _ hm => by cases hm⟩ (by simp) (fun v hv => by simp at hv; rw [hv]; exact Nat.le_refl _)
  ·
   rw [hx0] at key
   exact key
  ·
   refine Ev.step (fun k => rfl) ?_
   simp only [fanlightlaw10_DomGone.j1]
   refine l1_is l r nx (doE s p).2.f0 (doE s p).2.f1 (doE s p).2.f2 L (by omega) hll ?_ x0.f0 x0.f1 hm hn2 l [] [] rfl ?_
   ·
    rw [ht]
    refine Nat.le_trans (List.length_filter_le _ _) ?_
    simpa using hll
   ·
    rw [ht, List.nil_append, List.map_map]
    have e1 : (l.map fun z => cutN x0.f0 x0.f1 (toN z)) = l.map (cutN x0.f0 x0.f1 ∘ toN) := rfl
    rw [e1]
    refine List.filter_congr (fun z hz => ?_)
    rw [List.map_map] at hI hL hv1 hid
    have h5 : z.f0 ∈ G ↔ z.f0 ∈ L := by
     constructor
     ·
      intro h; have := gone_sub hv1 hI hL (by simpa using hm) hid z hz h; simpa using this
     ·
      intro h; exact gone_sub hv1 hL hI hxG hid z hz (by simpa using h)
    rw [Bool.eq_iff_iff]
    simpa using not_congr h5
end Go.Proofs.Ytleofbidijbahaa.PureGone
