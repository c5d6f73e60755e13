/- Frames put one behind the other are scanned; cut off anywhere, just those that lie whole ahead of the cut: every list, every cut. -/
import Derived.Test.YtchmncgnaiiijaaSealPutV
import Derived.Test.YtchmncgnaiiijaaV15
namespace Go.Proofs.Ytchmncgnaiiijaa.Pure
set_option linter.unusedVariables false
set_option linter.unusedSimpArgs false
open Go.RowKit Go.Proofs.Ytchmncgnaiiijaa.V Go.Proofs.YtchmncgnaiiijaaW.PrintWords Go.Proofs.YtchmncgnaiiijaaW.PrintLast SealPutV
/-- a frame that may be put -/
structure Good (g : S34) : Prop where
  lo : 1 ≤ g.f0
  hi : g.f0 ≤ 255
  len : g.f1.length ≤ 65536
  oct : octs g.f1
def flat (G : List S34) : List Int := G.flatMap fun g => framed g.f0 g.f1
def endOf (G : List S34) (j : Nat) : Nat := (flat (G.take j)).length
theorem flat_cons (g : S34) (G : List S34) : flat (g :: G) = framed g.f0 g.f1 ++ flat G := List.flatMap_cons
theorem flat_append (G H : List S34) : flat (G ++ H) = flat G ++ flat H := by simp [flat]
theorem flat_octs {G : List S34} (h : ∀ g ∈ G, Good g) : octs (flat G) := by
  intro x hx
  obtain ⟨g, hg, hx⟩ := List.mem_flatMap.1 hx
  exact framed_octs (h g hg).oct x hx
theorem flat_len {G : List S34} (h : ∀ g ∈ G, Good g) : (flat G).length ≤ 65544 * G.length := by
  induction G with
  | nil => simp [flat]
  | cons g G ih =>
    have := ih (fun x hx => h x (by simp [hx]))
    have hg := (h g (by simp)).len
    rw [flat_cons, List.length_append, framed_length, List.length_cons]
    omega
theorem endOf_all (G : List S34) {j : Nat} (h : G.length ≤ j) : endOf G j = (flat G).length := by
  unfold endOf
  rw [List.take_of_length_le h]
theorem endOf_cons (g : S34) (G : List S34) (j : Nat) : endOf (g :: G) (j + 1) = g.f1.length + 8 + endOf G j := by
  unfold endOf
  rw [List.take_succ_cons, flat_cons, List.length_append, framed_length]
theorem endOf_zero (G : List S34) : endOf G 0 = 0 := rfl
theorem endOf_mono (G : List S34) : ∀ (i j : Nat), i ≤ j → endOf G i ≤ endOf G j := by
  induction G with
  | nil => intro i j h; simp [endOf, flat]
  | cons g G ih =>
    intro i j h
    match i, j with
    | 0, j => rw [endOf_zero]; omega
    | i + 1, 0 => omega
    | i + 1, j + 1 =>
      rw [endOf_cons, endOf_cons]
      have := ih i j (by omega)
      omega
theorem split_ex (G : List S34) : ∀ at_ : Nat, ∃ K, K ≤ G.length ∧ endOf G K ≤ at_ ∧ (K < G.length → at_ < endOf G (K + 1)) := by
  induction G with
  | nil => intro a; exact ⟨0, by simp, by simp [endOf, flat], by simp⟩
  | cons g G ih =>
    intro a
    by_cases h : a < g.f1.length + 8
    · exact ⟨0, by simp, by rw [endOf_zero]; omega, fun _ => by rw [endOf_cons, endOf_zero]; omega⟩
    · obtain ⟨K, h1, h2, h3⟩ := ih (a - (g.f1.length + 8))
      refine ⟨K + 1, by simpa using h1, by rw [endOf_cons]; omega, fun hk => ?_⟩
      have := h3 (by simpa using hk)
      rw [endOf_cons]
      omega
theorem le_split {G : List S34} {K at_ : Nat} (h2 : endOf G K ≤ at_) (h3 : K < G.length → at_ < endOf G (K + 1)) (i : Nat) (hi : i < G.length) : endOf G (i + 1) ≤ at_ ↔ i < K := by
  constructor
  · intro h
    by_cases hk : i < K
    · exact hk
    · have := endOf_mono G (K + 1) (i + 1) (by omega)
      have := h3 (by omega)
      omega
  · intro h
    have := endOf_mono G (i + 1) K (by omega)
    omega
/-- the rows of frames, from a place on -/
def rowsOf : Nat → List S34 → List (Int × Int × List Int)
  | _, [] => []
  | p, g :: G => ((p : Int) + ((g.f1.length : Int) + 8), g.f0, g.f1) :: rowsOf (p + (g.f1.length + 8)) G
theorem rowsOf_rows (p : Nat) (G : List S34) : (rowsOf p G).map (fun t => (⟨t.2.1, t.2.2⟩ : S34)) = G := by
  induction G generalizing p with
  | nil => rfl
  | cons g G ih => rw [rowsOf, List.map_cons, ih]
theorem rowsOf_length (p : Nat) (G : List S34) : (rowsOf p G).length = G.length := by
  induction G generalizing p with
  | nil => rfl
  | cons g G ih => rw [rowsOf, List.length_cons, ih, List.length_cons]
theorem rowsOf_end (G : List S34) : ∀ p : Nat, ((rowsOf p G).getLast?.map (·.1)).getD (p : Int) = ((p + (flat G).length : Nat) : Int) := by
  induction G with
  | nil => intro p; simp [rowsOf, flat]
  | cons g G ih =>
    intro p
    have h := ih (p + (g.f1.length + 8))
    rw [rowsOf, flat_cons, List.length_append, framed_length]
    cases hr : rowsOf (p + (g.f1.length + 8)) G with
    | nil =>
      rw [hr] at h
      simp only [List.getLast?_nil, Option.map_none, Option.getD_none] at h
      simp only [List.getLast?_singleton, Option.map_some, Option.getD_some]
      omega
    | cons b bs =>
      rw [hr] at h
      rw [List.getLast?_cons_cons]
      cases hg : (b :: bs).getLast? with
      | none => simp at hg
      | some z =>
        rw [hg] at h
        simp only [Option.map_some, Option.getD_some] at h ⊢
        omega
theorem scan_frames {T : List Int} (hT : (getS T).2.2.2 ≠ 0) : ∀ (G : List S34) (pre : List Int) (n : Nat), (∀ g ∈ G, Good g) → G.length < n → scanN n (pre ++ (flat G ++ T)) pre.length = rowsOf pre.length G
  | [], pre, n + 1, h, hn => by
    have e : (pre ++ (flat [] ++ T)).drop pre.length = T := by simp [flat]
    rw [scanN, e, if_neg hT]
    rfl
  | g :: G, pre, n + 1, h, hn => by
    have hg := h g (by simp)
    have e : (pre ++ (flat (g :: G) ++ T)).drop pre.length = framed g.f0 g.f1 ++ (flat G ++ T) := by
      rw [List.drop_left, flat_cons, List.append_assoc]
    have e2 : pre ++ (flat (g :: G) ++ T) = (pre ++ framed g.f0 g.f1) ++ (flat G ++ T) := by
      rw [flat_cons, List.append_assoc, List.append_assoc]
    have hl : (pre ++ framed g.f0 g.f1).length = pre.length + (g.f1.length + 8) := by rw [List.length_append, framed_length]
    have ih := scan_frames hT G (pre ++ framed g.f0 g.f1) n (fun x hx => h x (by simp [hx])) (by simpa using hn)
    rw [hl] at ih
    rw [scanN, e, getS_framed hg.lo hg.hi hg.len, if_pos rfl, rowsOf, e2]
    dsimp only
    rw [show ((g.f1.length : Int) + 8).toNat = g.f1.length + 8 by omega, ih]
theorem scan_all {T : List Int} (hT : (getS T).2.2.2 ≠ 0) (G : List S34) (h : ∀ g ∈ G, Good g) : scanRows (flat G ++ T) = rowsOf 0 G ∧ scanEnd (flat G ++ T) = ((flat G).length : Int) := by
  have hle : G.length ≤ (flat G).length := by
    clear h
    induction G with
    | nil => simp
    | cons g G ih => rw [flat_cons, List.length_append, framed_length, List.length_cons]; omega
  have h1 := scan_frames hT G [] ((flat G ++ T).length + 1) h (by rw [List.length_append]; omega)
  have h2 : scanRows (flat G ++ T) = rowsOf 0 G := h1
  refine ⟨h2, ?_⟩
  unfold scanEnd
  rw [h2]
  have := rowsOf_end G 0
  rw [Nat.zero_add] at this
  exact this
/-- what is cut off a frame is none -/
theorem getS_cut {k : Int} {l : List Int} (h0 : 1 ≤ k) (h1 : k ≤ 255) (h : l.length ≤ 65536) (m : Nat) (hm : m < l.length + 8) : (getS ((framed k l).take m)).2.2.2 ≠ 0 := by
  have hlen : ((framed k l).take m).length = m := by rw [List.length_take, framed_length]; omega
  by_cases h8 : m < 8
  · unfold getS
    rw [if_pos (by omega)]
    decide
  have hrd : ∀ i : Nat, i < 8 → rd ((framed k l).take m) (i : Int) = rd (framed k l) (i : Int) := fun i hi => by
    unfold rd
    rw [Int.toNat_natCast, List.getD_eq_getElem?_getD, List.getD_eq_getElem?_getD, List.getElem?_take_of_lt (by omega)]
  obtain ⟨r0, _⟩ := rd_body k l (laidL (sumOf (sealBody k l)))
  have hn := num3_body (k := k) (more := laidL (sumOf (sealBody k l))) h
  have e0 := hrd 0 (by omega)
  have hn2 : num3 ((framed k l).take m) = l.length := by
    rw [← hn]
    have e1 := hrd 1 (by omega)
    have e2 := hrd 2 (by omega)
    have e3 := hrd 3 (by omega)
    unfold num3
    exact congr (congrArg _ (congr (congrArg _ (by first | exact e1 | (rw [show ((1 : Nat) : Int) = 1 from rfl] at e1; rw [e1]; rfl))) (by first | exact e2 | (rw [show ((2 : Nat) : Int) = 2 from rfl] at e2; rw [e2]; rfl)))) (by rw [show ((3 : Nat) : Int) = 3 from rfl] at e3; rw [e3]; rfl)
  have e0' : rd ((framed k l).take m) 0 = k % 256 := e0.trans r0
  unfold getS
  rw [if_neg (by omega), e0', hn2, if_neg (by omega), if_neg (by omega), if_pos (by omega)]
  decide
theorem getS_nil : (getS []).2.2.2 ≠ 0 := by
  unfold getS
  rw [if_pos (by simp)]
  decide
theorem cut_form {G : List S34} (h : ∀ g ∈ G, Good g) {K at_ : Nat} (h1 : K ≤ G.length) (h2 : endOf G K ≤ at_) (h3 : K < G.length → at_ < endOf G (K + 1)) (h4 : at_ ≤ (flat G).length) :
    ∃ T, (flat G).take at_ = flat (G.take K) ++ T ∧ (getS T).2.2.2 ≠ 0 := by
  have e : flat G = flat (G.take K) ++ flat (G.drop K) := by rw [← flat_append, List.take_append_drop]
  refine ⟨(flat (G.drop K)).take (at_ - endOf G K), ?_, ?_⟩
  · rw [e, List.take_append, List.take_of_length_le (show (flat (G.take K)).length ≤ at_ from h2)]
    rfl
  · by_cases hk : K < G.length
    · obtain ⟨g, rest, hd⟩ : ∃ g rest, G.drop K = g :: rest := by
        cases hd : G.drop K with
        | nil =>
          have := congrArg List.length hd
          simp at this
          omega
        | cons g rest => exact ⟨g, rest, rfl⟩
      have hgm : g ∈ G := List.mem_of_mem_drop (by rw [hd]; simp)
      have hg := h g hgm
      have hK1 : endOf G (K + 1) = endOf G K + (g.f1.length + 8) := by
        have : G.take (K + 1) = G.take K ++ [g] := by
          have := List.take_add (l := G) (i := K) (j := 1)
          rw [this, hd]
          rfl
        unfold endOf
        rw [this, flat_append, List.length_append]
        simp [flat, framed_length]
      have h3' := h3 hk
      rw [hd, flat_cons, List.take_append_of_le_length (by rw [framed_length]; omega)]
      exact getS_cut hg.lo hg.hi hg.len _ (by omega)
    · have : G.drop K = [] := List.drop_of_length_le (by omega)
      rw [this]
      simpa [flat] using getS_nil
def ends (G : List S34) : List Int := (List.range G.length).map fun j => (endOf G (j + 1) : Int)
theorem ends_length (G : List S34) : (ends G).length = G.length := by simp [ends]
theorem endOf_append (G H : List S34) (j : Nat) (h : j ≤ G.length) : endOf (G ++ H) j = endOf G j := by
  unfold endOf
  rw [List.take_append_of_le_length h]
theorem ends_snoc (G : List S34) (g : S34) : ends (G ++ [g]) = ends G ++ [((flat G ++ framed g.f0 g.f1).length : Int)] := by
  unfold ends
  rw [List.length_append, List.length_singleton, List.range_succ, List.map_append]
  congr 1
  · apply List.map_congr_left
    intro j hj
    rw [endOf_append _ _ _ (by have := List.mem_range.1 hj; omega)]
  · rw [List.map_singleton, endOf_all _ (by simp), flat_append]
    simp [flat]
theorem ends_rd (G : List S34) (i : Nat) (h : i < G.length) : rd (ends G) (i : Int) = (endOf G (i + 1) : Int) := by
  unfold rd ends
  rw [Int.toNat_natCast]
  simp [List.getD_eq_getElem?_getD, h]
theorem flat_snoc (G : List S34) (g : S34) : flat (G ++ [g]) = flat G ++ framed g.f0 g.f1 := by
  rw [flat_append]
  simp [flat]
theorem scan_is {l : List Int} (h : l.length ≤ 1099511627776) (ho : octs l) : seal_Scan.f l = some ((scanRows l).map (fun t => ⟨t.2.1, t.2.2⟩), scanEnd l) := by
  unfold seal_Scan.f
  rw [if_pos ⟨h, ho⟩]
theorem sameAll_l0 (G : List S34) (G' : List S38) (hG : G' = G.map (fun g => (⟨g.f0, g.f1⟩ : S38))) (hl : G.length ≤ 4611686018427387904) : ∀ (d i : Nat), G.length - i = d → i ≤ G.length →
    Ev (fun k => fanlightlaw04_sameAll.l0 k G' G (i : Int)) true
  | 0, i, hd, hi => by
    refine Ev.step (fun k => rfl) ?_
    have hl' : G'.length = G.length := by rw [hG]; simp
    simp only [fanlightlaw04_sameAll.l0, if_neg (show ¬ (i : Int) < (G'.length : Int) by omega)]
    exact Ev.now _
  | d + 1, i, hd, hi => by
    refine Ev.step (fun k => rfl) ?_
    have hlt : i < G.length := by omega
    have hl' : G'.length = G.length := by rw [hG]; simp
    have n3 : wrap64 ((i : Int) + 1) = ((i + 1 : Nat) : Int) := by rw [wrapI] <;> omega
    have e1 : rd_T38 G' (i : Int) = ⟨G[i].f0, G[i].f1⟩ := by
      rw [hG]
      simp [rd_T38, List.getD_eq_getElem?_getD, hlt]
    have e2 : rd_T34 G (i : Int) = G[i] := by
      simp [rd_T34, List.getD_eq_getElem?_getD, hlt]
    simp only [fanlightlaw04_sameAll.l0, if_pos (show (i : Int) < (G'.length : Int) by omega), if_pos (show (0 : Int) ≤ (i : Int) by omega), if_pos (show (i : Int) < (G.length : Int) by omega), e1, e2, same_is, Option.bind_some, if_true, n3]
    exact sameAll_l0 G G' hG hl d (i + 1) (by omega) (by omega)
theorem sameAll_is (G : List S34) (G' : List S38) (hG : G' = G.map (fun g => (⟨g.f0, g.f1⟩ : S38))) (hl : G.length ≤ 4611686018427387904) : Ev (fun k => fanlightlaw04_sameAll.f k G' G) true := by
  have hl' : G'.length = G.length := by rw [hG]; simp
  simp only [fanlightlaw04_sameAll.f, hl', if_true]
  exact sameAll_l0 G G' hG hl G.length 0 rfl (by omega)
theorem rows38 (p : Nat) (G : List S34) : (rowsOf p G).map (fun t => (⟨t.2.1, t.2.2⟩ : S38)) = G.map (fun g => (⟨g.f0, g.f1⟩ : S38)) := by
  conv => rhs; rw [← rowsOf_rows p G, List.map_map]
  rfl
/-- behind the cut -/
theorem cut_l1 (G : List S34) (hG : ∀ g ∈ G, Good g) (hn : G.length ≤ 20) (at_ K : Nat) (h1 : K ≤ G.length) (h2 : endOf G K ≤ at_) (h3 : K < G.length → at_ < endOf G (K + 1)) (h4 : at_ ≤ (flat G).length) :
    ∀ (d i : Nat), G.length - i = d → i ≤ G.length → Ev (fun k => fanlightlaw04_SealScans.l1 k (at_ : Int) (flat G) (ends G) G ((min i K : Nat) : Int) ((endOf G (min i K) : Nat) : Int) (i : Int)) true
  | 0, i, hd, hi => by
    refine Ev.step (fun k => rfl) ?_
    have hfl := flat_len hG
    have hi' : i = G.length := by omega
    subst hi'
    have hm : min G.length K = K := by omega
    simp only [fanlightlaw04_SealScans.l1, hm, ends_length, if_neg (show ¬ (G.length : Int) < (G.length : Int) by omega), if_pos (show (0 : Int) ≤ (at_ : Int) by omega), if_pos (show (at_ : Int) ≤ ((flat G).length : Int) by omega), Int.toNat_natCast]
    obtain ⟨T, hT, hT2⟩ := cut_form hG h1 h2 h3 h4
    have hsc := scan_is (l := (flat G).take at_) (by rw [List.length_take]; omega) (fun x hx => flat_octs hG x (List.mem_of_mem_take hx))
    obtain ⟨hr, he⟩ := scan_all hT2 (G.take K) (fun g hg => hG g (List.mem_of_mem_take hg))
    rw [← hT] at hr he
    rw [hr, he, rows38] at hsc
    simp only [hsc, Option.bind_some, if_pos (show (0 : Int) ≤ (K : Int) by omega), if_pos (show (K : Int) ≤ (G.length : Int) by omega)]
    refine Ev.bind (sameAll_is (G.take K) _ rfl (by rw [List.length_take]; omega)) ?_
    simp only [if_true]
    have : ((((flat (G.take K)).length : Nat) : Int) == ((endOf G K : Nat) : Int)) = true := beq_iff_eq.2 rfl
    rw [this]
    exact Ev.now _
  | d + 1, i, hd, hi => by
    refine Ev.step (fun k => rfl) ?_
    have hlt : i < G.length := by omega
    have n3 : wrap64 ((i : Int) + 1) = ((i + 1 : Nat) : Int) := by rw [wrapI] <;> omega
    have hle := le_split h2 h3 i hlt
    have ih := cut_l1 G hG hn at_ K h1 h2 h3 h4 d (i + 1) (by omega) (by omega)
    simp only [fanlightlaw04_SealScans.l1, ends_length, if_pos (show (i : Int) < (G.length : Int) by omega), if_pos (show (0 : Int) ≤ (i : Int) by omega), ends_rd G i hlt, n3]
    by_cases hK : i < K
    · have hm : min (i + 1) K = i + 1 := by omega
      rw [hm] at ih
      simp only [if_pos (show ((endOf G (i + 1) : Nat) : Int) ≤ (at_ : Int) by have := hle.2 hK; omega)]
      exact ih
    · have hm : min (i + 1) K = min i K := by omega
      rw [hm] at ih
      simp only [if_neg (show ¬ ((endOf G (i + 1) : Nat) : Int) ≤ (at_ : Int) by have := fun h => hK (hle.1 h); omega)]
      exact ih
theorem tail_is (G : List S34) (hG : ∀ g ∈ G, Good g) (hn : G.length ≤ 20) (a : Int) (ha0 : -9223372036854775808 ≤ a) (ha1 : a < 9223372036854775808) (l : List S34) (x8 : Int) :
    Ev (fun k => fanlightlaw04_SealScans.j1 k l a (flat G) (ends G) G x8 false) true := by
  refine Ev.step (fun k => rfl) ?_
  have hfl := flat_len hG
  have hsc := scan_is (l := flat G) (by omega) (flat_octs hG)
  obtain ⟨hr, he⟩ := scan_all getS_nil G hG
  rw [List.append_nil] at hr he
  rw [hr, he, rows38] at hsc
  simp only [fanlightlaw04_SealScans.j1, if_neg (show ¬ false = true by decide), hsc, Option.bind_some]
  refine Ev.bind (sameAll_is G _ rfl (by omega)) ?_
  have hb : (((flat G).length : Int) != ((flat G).length : Int)) = false := by simp
  simp only [if_true, hb]
  refine Ev.step (fun k => rfl) ?_
  obtain ⟨n, hnn⟩ : ∃ n, (flat G).length = n := ⟨_, rfl⟩
  have w1 : wrap64 ((n : Int) + 1) = (n : Int) + 1 := by rw [wrapI] <;> omega
  simp only [fanlightlaw04_SealScans.j2, if_neg (show ¬ false = true by decide), hnn, w1, if_neg (show ¬ (n : Int) + 1 = 0 by omega)]
  have b1 : Int.tmod a ((n : Int) + 1) < (n : Int) + 1 := Int.tmod_lt_of_pos a (by omega)
  have b2 : -((n : Int) + 1) < Int.tmod a ((n : Int) + 1) := Int.lt_tmod_of_pos a (by omega)
  generalize Int.tmod a ((n : Int) + 1) = u at b1 b2 ⊢
  have w2 : wrap64 (u + (n : Int)) = u + (n : Int) := by rw [wrapI] <;> omega
  have w3 : wrap64 (u + (n : Int) + 1) = u + (n : Int) + 1 := by rw [wrapI] <;> omega
  rw [w2, w3]
  have b3 : Int.tmod (u + (n : Int) + 1) ((n : Int) + 1) < (n : Int) + 1 := Int.tmod_lt_of_pos _ (by omega)
  have b4 : 0 ≤ Int.tmod (u + (n : Int) + 1) ((n : Int) + 1) := Int.tmod_nonneg _ (by omega)
  generalize Int.tmod (u + (n : Int) + 1) ((n : Int) + 1) = v at b3 b4 ⊢
  obtain ⟨at_, rfl⟩ := Int.eq_ofNat_of_zero_le b4
  obtain ⟨K, h1, h2, h3⟩ := split_ex G at_
  have := cut_l1 G hG hn at_ K h1 h2 h3 (by omega) G.length 0 rfl (by omega)
  rw [Nat.zero_min, endOf_zero] at this
  exact this
theorem loop_l0 (l : List S34) (hl : ∀ g ∈ l, octs g.f1 ∧ g.f1.length ≤ 140737488351232) (hn : l.length ≤ 140737488351232) (a : Int) (ha0 : -9223372036854775808 ≤ a) (ha1 : a < 9223372036854775808) :
    ∀ (d i : Nat) (G : List S34), 20 - i = d → i ≤ 20 → (∀ g ∈ G, Good g) → G.length ≤ i → Ev (fun k => fanlightlaw04_SealScans.l0 k l a (flat G) (ends G) G (i : Int)) true
  | 0, i, G, hd, hi, hG, hGi => by
    refine Ev.step (fun k => rfl) ?_
    have hc : decide ((i : Int) < 20) = false := decide_eq_false (by omega)
    have ht := tail_is G hG (by omega) a ha0 ha1 l (i : Int)
    simp only [fanlightlaw04_SealScans.l0, hc]
    split
    · exact ht
    · exact ht
  | d + 1, i, G, hd, hi, hG, hGi => by
    refine Ev.step (fun k => rfl) ?_
    have hc : decide ((i : Int) < 20) = true := decide_eq_true (by omega)
    have ht := tail_is G hG (by omega) a ha0 ha1 l (i : Int)
    by_cases hlt : i < l.length
    · simp only [fanlightlaw04_SealScans.l0, if_pos (show (i : Int) < (l.length : Int) by omega), hc]
      refine Ev.step (fun k => rfl) ?_
      have n3 : wrap64 ((i : Int) + 1) = ((i + 1 : Nat) : Int) := by rw [wrapI] <;> omega
      have e2 : rd_T34 l (i : Int) = l[i] := by simp [rd_T34, List.getD_eq_getElem?_getD, hlt]
      obtain ⟨ho, hlen⟩ := hl l[i] (List.getElem_mem hlt)
      simp only [fanlightlaw04_SealScans.j1, if_true, if_pos (show (0 : Int) ≤ (i : Int) by omega), if_pos (show (i : Int) < (l.length : Int) by omega), e2, of_is (k := l[i].f0) (l := l[i].f1) (by omega), Option.bind_some, n3]
      generalize l[i] = g at ho hlen ⊢
      have skip := loop_l0 l hl hn a ha0 ha1 d (i + 1) G (by omega) (by omega) hG (by omega)
      by_cases hk : g.f0 < 1 ∨ 255 < g.f0
      · simp only [put_bad hk, Option.bind_some, fanlightlaw04_num.f, if_neg (show ¬ (22 : Int) = 0 by decide)]
        by_cases hk1 : g.f0 ≥ 1
        · simp only [if_pos hk1, if_neg (show ¬ g.f0 ≤ 255 by omega)]
          exact skip
        · simp only [if_neg hk1]
          exact skip
      · by_cases hlong : 65536 < g.f1.length
        · simp only [put_long (k := g.f0) (by omega) (by omega) hlong, Option.bind_some, fanlightlaw04_num.f, if_neg (show ¬ (5 : Int) = 0 by decide), if_pos (show g.f0 ≥ 1 by omega), if_pos (show g.f0 ≤ 255 by omega), if_neg (show ¬ (g.f1.length : Int) ≤ 65536 by omega)]
          exact skip
        · have hgood : Good g := ⟨by omega, by omega, by omega, ho⟩
          have hfl := flat_len hG
          have hfr := framed_length g.f0 g.f1
          have hel := ends_length G
          have ih := loop_l0 l hl hn a ha0 ha1 d (i + 1) (G ++ [g]) (by omega) (by omega) (fun x hx => by
            rcases List.mem_append.1 hx with h | h
            · exact hG x h
            · rw [List.mem_singleton.1 h]; exact hgood) (by rw [List.length_append, List.length_singleton]; omega)
          rw [flat_snoc, ends_snoc] at ih
          simp only [put_good (k := g.f0) (by omega) (by omega) (show g.f1.length ≤ 65536 by omega), Option.bind_some, fanlightlaw04_num.f, if_true, if_pos (show (flat G).length + (framed g.f0 g.f1).length < 140737488355328 by omega), if_pos (show (ends G).length < 17592186044416 by omega), if_pos (show G.length < 4398046511104 by omega)]
          exact ih
    · simp only [fanlightlaw04_SealScans.l0, if_neg (show ¬ (i : Int) < (l.length : Int) by omega)]
      exact ht
theorem SealScans (l : List S34) (a : Int) (hl : ∀ g ∈ l, octs g.f1 ∧ g.f1.length ≤ 140737488351232) (hn : l.length ≤ 140737488351232) (ha : -9223372036854775808 ≤ a ∧ a < 9223372036854775808) : ∃ k, fanlightlaw04_SealScans.f k l a = some true := by
  suffices H : Ev (fun k => fanlightlaw04_SealScans.f k l a) true by
    obtain ⟨K, h⟩ := H
    exact ⟨K, h K (Nat.le_refl _)⟩
  have ha' : fanlightlaw04_alive.f = some true := rfl
  simp only [fanlightlaw04_SealScans.f, ha', Option.bind_some, if_true]
  exact loop_l0 l hl hn a ha.1 ha.2 20 0 [] rfl (by omega) (by simp) (by simp)
end Go.Proofs.Ytchmncgnaiiijaa.Pure
