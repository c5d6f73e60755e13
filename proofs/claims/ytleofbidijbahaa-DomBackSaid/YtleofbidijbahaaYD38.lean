import Derived.Test.YtleofbidijbahaaYD0
import Derived.Test.YtleofbidijbahaaYD5
import Derived.Test.YtleofbidijbahaaYD7
import Derived.Test.YtleofbidijbahaaYD37
namespace Go.Proofs.Ytleofbidijbahaa.D
open Go.RowKit Go.Proofs.YtleofbidijbahaaW.PrintWords Go.Proofs.YtleofbidijbahaaW.PrintLast Go.Proofs.YtleofbidijbahaaW.PrintMore
attribute [local go_sem] max2_int min2_int max_two min_two max_three min_three max_four min_four   -- for this text's walks alone
set_option linter.unusedVariables false
set_option linter.unusedSimpArgs false
theorem emp_iff {s : ByteArray} : s.toList = ([] : List UInt8) ↔ s.toList.isEmpty = true := List.isEmpty_iff.symm
theorem emp_eq {s : ByteArray} (h : s.toList.isEmpty = true) : s = ⟨#[]⟩ := by
 rw [ByteArray.toList_eq, List.isEmpty_iff] at h
 exact ByteArray.ext (Array.toList_inj.1 h)
theorem size_nil {s : ByteArray} (h : s.toList.isEmpty = true) : s.size = 0 := by rw [emp_eq h]; rfl
theorem bytes_nil {s : ByteArray} : bytesOf s = [] ↔ s.toList.isEmpty = true := by
 rw [ByteArray.toList_eq, List.isEmpty_iff]
 unfold bytesOf
 rw [List.map_eq_nil_iff]
theorem letters_of {s : ByteArray} (h : lettersB s = true) : bytesOf s ≠ [] ∧ s.size ≤ 16 := by
 unfold lettersB at h
 simp only [Bool.and_eq_true, decide_eq_true_eq, Bool.not_eq_true', decide_eq_false_iff_not] at h
 exact ⟨fun e => h.1 (emp_iff.2 (bytes_nil.1 e)), h.2.1⟩
def bsT (n k : Nat) : Array Bool := ⟨List.replicate k true ++ List.replicate (n - k) false⟩
theorem bt_of {E : ByteArray} {pre rest : List Int} {c : Int} (h : bytesOf E = pre ++ c :: rest) : bt E (pre.length : Int) = c := by
 have h1 : (bytesOf E)[pre.length]? = some c := by rw [h]; simp
 have hlt : pre.length < E.size := by
  rw [← bytesOf_length]
  exact (List.getElem?_eq_some_iff.1 h1).1
 have hd : pre.length < E.data.size := hlt
 unfold bytesOf at h1
 rw [List.getElem?_map, Array.getElem?_toList, Array.getElem?_eq_getElem hd, Option.map_some] at h1
 unfold bt
 rw [dif_pos (show ((pre.length : Int).toNat) < E.size by rw [Int.toNat_natCast]; exact hlt)]
 exact Option.some.inj h1
theorem wN {n : Nat} (h : n ≤ 1000000) : wrap64 ((n : Int) + 1) = ((n + 1 : Nat) : Int) := by unfold wrap64; omega
theorem letters_l0 (s : ByteArray) (hs : s.size ≤ 16) : ∀ (rest pre : List Int), bytesOf s = pre ++ rest → Ev (fun k => fanlightref09_Letters.l0 k s (pre.length : Int)) (!rest.any badC)
 | [], pre, h => by
  refine Ev.step (fun k => rfl) ?_
  have hl := congrArg List.length h
  rw [bytesOf_length, List.append_nil] at hl
  simp only [fanlightref09_Letters.l0, if_neg (show ¬ (pre.length : Int) < (s.size : Int) by omega), List.any_nil, Bool.not_false]
  exact Ev.now _
 | c :: rest, pre, h => by
  refine Ev.step (fun k => rfl) ?_
  have hl := congrArg List.length h
  rw [bytesOf_length, List.length_append, List.length_cons] at hl
  have hb := bt_of h
  have c1 : (pre.length : Int) < (s.size : Int) := by omega
  have c2 : (0 : Int) ≤ (pre.length : Int) := by omega
  have hw := wN (n := pre.length) (by omega)
  have hnext := letters_l0 s hs rest (pre ++ [c]) (by rw [h]; simp)
  rw [List.length_append, List.length_singleton] at hnext
  simp only [fanlightref09_Letters.l0, if_pos c1, if_pos c2, hb, hw, List.any_cons]
  by_cases h1 : c < 97
  ·
   have e : badC c = true := by unfold badC; simp [h1]
   simp only [if_pos h1, e, Bool.true_or, Bool.not_true]
   exact Ev.now _
  ·
   by_cases h2 : c > 122
   ·
    have e : badC c = true := by unfold badC; rw [decide_eq_true (show 122 < c from h2), Bool.or_true]
    simp only [if_neg h1, if_pos h2, e, Bool.true_or, Bool.not_true]
    exact Ev.now _
   ·
    have e : badC c = false := by unfold badC; rw [decide_eq_false h1, decide_eq_false (show ¬ 122 < c from h2)]; rfl
    simp only [if_neg h1, if_neg h2, e, Bool.false_or]
    exact hnext
theorem letters_ref (s : ByteArray) : Ev (fun k => fanlightref09_Letters.f k s) (lettersB s) := by
 unfold fanlightref09_Letters.f
 have hb : lettersB s = (!decide (s.toList = []) && (decide (s.size ≤ 16) && !((bytesOf s).any badC))) := rfl
 by_cases h1 : (s.size : Int) < 1
 ·
  have he : s.toList = [] := emp_iff.2 (bytes_nil.1 (List.length_eq_zero_iff.1 (by rw [bytesOf_length]; omega)))
  rw [hb, decide_eq_true he]
  simp only [if_pos h1, Bool.not_true, Bool.false_and]
  refine Ev.step (fun k => rfl) ?_
  simp only [fanlightref09_Letters.j0, if_true]
  exact Ev.now _
 ·
  have he : ¬ s.toList = [] := fun e => by
   have := size_nil (emp_iff.1 e)
   omega
  rw [hb, decide_eq_false he]
  simp only [if_neg h1, Bool.not_false, Bool.true_and]
  refine Ev.step (fun k => rfl) ?_
  by_cases h2 : s.size ≤ 16
  ·
   simp only [fanlightref09_Letters.j0, decide_eq_false (show ¬ (s.size : Int) > 16 by omega), Bool.false_eq_true, if_false, decide_eq_true h2, Bool.true_and]
   exact letters_l0 s h2 (bytesOf s) [] rfl
  ·
   simp only [fanlightref09_Letters.j0, decide_eq_true (show (s.size : Int) > 16 by omega), if_true, decide_eq_false h2, Bool.false_and]
   exact Ev.now _
theorem letters_call (s : ByteArray) (w : World) : Calls Try.prog 74 #[.string s] w fun e w' => e = .returned (.bool (lettersB s)) ∧ Drawn0 w w' := by
 obtain ⟨k, hk⟩ := (letters_ref s).rounds
 exact fanlightref09_Letters.calls k s _ w hk
theorem rdT_lt {l : List S68} {i : Nat} (h : i < l.length) : rd_T68 l (i : Int) = l[i] := by
 unfold rd_T68
 rw [Int.toNat_natCast, List.getD_eq_getElem?_getD, List.getElem?_eq_getElem h, Option.getD_some]
def badT (lst : ByteArray) (j : Nat) (x : S68) : Bool := if lettersB x.f0 = false then true else if 128 < x.f1.size then true else if j = 0 then false else (Op.bytesLess x.f0.toList lst.toList || x.f0.toList == lst.toList)
theorem badT_is (lst : ByteArray) (j : Nat) (x : S68) (h : j = 0 → lst = ⟨#[]⟩) : bad1 lst x = badT lst j x := by
 unfold bad1 badT
 cases hl : lettersB x.f0 with
 | false => simp
 | true =>
  simp only [Bool.not_true, Bool.false_or]
  rw [if_neg (by decide)]
  by_cases h1 : 128 < x.f1.size
  ·
   rw [if_pos h1, decide_eq_true h1, Bool.or_true]
  ·
   rw [if_neg h1, decide_eq_false h1, Bool.or_false]
   by_cases h0 : j = 0
   ·
    rw [if_pos h0, h h0, show (⟨#[]⟩ : ByteArray).toList = [] by rw [ByteArray.toList]; unfold ByteArray.toList.loop; rfl]
    have hne : x.f0.toList ≠ [] := fun e => (letters_of hl).1 (bytes_nil.2 (by rw [e]; rfl))
    cases hc : x.f0.toList with
    | nil => exact absurd hc hne
    | cons a s => rfl
   ·
    rw [if_neg h0]
def attrsB (l : List S68) : Bool := decide (l.length ≤ 16) && !badAttrs ⟨#[]⟩ l
set_option maxRecDepth 100000 in
set_option maxHeartbeats 8000000 in
theorem attrsT_is (A : Option Addr) (c n : Nat) (l : List S68) (w : World) (hC : Kd.C k68 w A n l) (hn : l.length = n) :
  Calls Try.prog 82 #[.slice A n c] w fun e w' => e = .returned (.bool (attrsB l)) ∧ Below w.heap.size w w' := by
 have HC := Aside0.mk hC
 have HN := Lib.hid hn
 obtain ⟨R, hR⟩ : ∃ R, attrsB l = R := ⟨_, rfl⟩
 rw [hR]
 unfold attrsB at hR
 rw [hn] at hR
 clear hC hn
 by_cases c1 : n ≤ 16
 rotate_left
 ·
  have d1 : decide ((n : Int) > 16) = true := decide_eq_true (by omega)
  have d1n : decide (16 < n) = true := decide_eq_true (by omega)
  have HV : Aside0 (R = false) := ⟨by rw [← hR, decide_eq_false c1]; rfl⟩
  clear c1 hR
  go_enter Try.func82, Try.ntmps82
  go_wp2_with fail
  go_ret
  exact ⟨by rw [HV.out]; rfl, Below.refl _ _⟩
 have d1 : decide ((n : Int) > 16) = false := decide_eq_false (by omega)
 have d1n : decide (16 < n) = false := decide_eq_false (by omega)
 have HR1 : Aside0 (R = !badAttrs ⟨#[]⟩ (l.drop 0)) := ⟨by rw [← hR, decide_eq_true c1]; rfl⟩
 clear hR
 go_enter Try.func82, Try.ntmps82
 go_wp2_with fail
 go_loopw [3] (fun i wr => ∃ (j : Nat) (lst : ByteArray), j ≤ n ∧ i = .int .i64 j ∧ Aside0 (R = !badAttrs lst (l.drop j)) ∧ Aside0 (j = 0 → lst = ⟨#[]⟩) ∧ Aside0 (0 < j → lst = (rd_T68 l ((j : Int) - 1)).f0) ∧ Aside0 (Below w.heap.size w wr)) (fun i _ => n - (intOf i).toNat)
 case atStart => exact ⟨0, ⟨#[]⟩, Nat.zero_le _, rfl, HR1, ⟨fun _ => rfl⟩, ⟨fun h => absurd h (by omega)⟩, ⟨Below.refl _ _⟩⟩
 case round =>
  obtain ⟨j, lst, hj, rfl, HZ, HL0, HL1, HB⟩ := hrel
  by_cases hlt : j < n
  ·
   have hkl : j < l.length := by have := HN.out; omega
   obtain ⟨ad, rfl, hx0, hx1⟩ := at_T68 (Kd.C_below HC.out HB.out) (j : Int) (by omega) (by omega)
   rw [rdT_lt hkl, Int.toNat_natCast] at hx0 hx1
   have hz := HZ.out
   rw [List.drop_eq_getElem_cons hkl, badAttrs, badT_is lst j _ HL0.out] at hz
   have hnx : l[j].f0 = (rd_T68 l (((j + 1 : Nat) : Int) - 1)).f0 := by rw [show (((j + 1 : Nat) : Int) - 1) = (j : Int) by omega, rdT_lt hkl]
   obtain ⟨x, hxe⟩ : ∃ x, l[j] = x := ⟨_, rfl⟩
   rw [hxe] at hx0 hx1 hz hnx
   have HNX := Aside0.mk hnx
   obtain ⟨bq, hbq0⟩ : ∃ b, badT lst j x = b := ⟨_, rfl⟩
   rw [hbq0] at hz
   have HZ2 := Aside0.mk hz
   have HBQ := Lib.hid hbq0
   have HLE := Aside0.mk (fun W : World => letters_call x.f0 W)
   have d9 : decide ((j : Int) < (n : Int)) = true := decide_eq_true (by omega)
   have hjn : (j : Int) < (n : Int) := by omega
   clear hz hnx hxe hbq0 hkl HZ
   go_upto_region 6 with (fail)
   go_cut [46] (fun s46 wx => s46 = .bool bq ∧ Aside0 (Below wr.heap.size wr wx))
   case first =>
    have hbd := HBQ.out
    unfold badT at hbd
    obtain ⟨lq, hlq⟩ : ∃ b, lettersB x.f0 = b := ⟨_, rfl⟩
    rw [hlq] at hbd HLE
    clear hlq
    cases lq with
    | false =>
     have hbq : bq = true := by rw [← hbd, if_pos rfl]
     clear hbd
     refine start_ (n := 34) (S := fun w' => w'.cell? (ad.add (j * 2)) = some (.string x.f0) ∧ w'.cell? ⟨(ad.add (j * 2)).block, (ad.add (j * 2)).off + 1, none⟩ = some (.string x.f1)) (ds := []) (bsT 34 0) (by kernel_rfl) rfl (by kernel_rfl) ⟨hx0, hx1⟩ (fun hHeld => ?_)
     (refine pure_ (i := 0) (v := ?_) (a' := ?_) (bsT 34 1) rfl rfl (by kernel_rfl) (fun _ _ _ h => h) (Or.inl ⟨by rfl, ?_⟩) ?_ ?_; rotate_left; (intro w'; go_simp; with_reducible rfl); rotate_left; (go_simp; rfl))
     (refine pure_ (i := 1) (v := ?_) (a' := ?_) (bsT 34 2) rfl rfl (by kernel_rfl) (fun _ _ _ h => h) (Or.inl ⟨by rfl, ?_⟩) ?_ ?_; rotate_left; (intro w'; go_simp; with_reducible rfl); rotate_left; (go_simp; rfl))
     (refine pure_ (i := 2) (v := ?_) (a' := ?_) (bsT 34 3) rfl rfl (by kernel_rfl) (fun _ _ _ h => h) (Or.inl ⟨by rfl, ?_⟩) ?_ ?_; rotate_left; (intro w'; go_simp; with_reducible rfl); rotate_left; (go_simp; rfl))
     (refine pure_ (i := 3) (v := ?_) (a' := ?_) (bsT 34 4) rfl rfl (by kernel_rfl) (fun _ _ _ h => h) (Or.inl ⟨by rfl, ?_⟩) ?_ ?_; rotate_left; (intro w'; go_simp; with_reducible rfl); rotate_left; (go_simp; rfl))
     (refine take_ (i := 4) (v := ?_) (a' := ?_) (bsT 34 5) rfl rfl (by kernel_rfl) (fun _ _ _ h => h) (Or.inl ⟨by rfl, ?_⟩) hHeld ?_ ?_; rotate_left; (rintro w' ⟨s0, s1⟩; go_simp; with_reducible rfl); rotate_left; (go_simp; rfl))
     refine one_ (i := 5) (N := (some 18)) (bsT 34 6) rfl rfl (by kernel_rfl) (by decide) (fun K hK => ?_)
     refine goes_ Try.func74 (by kernel_rfl) rfl #[.string x.f0] (by rfl) rfl rfl (by (try simp only [List.map_toArray, List.map_cons, List.map_nil]); first | done | rfl) ?_
     refine (HLE.out wr.drew).mono ?_
     rintro e w7 ⟨rfl, hd7⟩
     refine ⟨_, rfl, ?_⟩
     have HB7 : Aside0 (Below wr.heap.size wr w7) := ⟨(below_drew1 (Below.refl _ _)).trans hd7.below⟩
     clear hd7
     refine hK.out _ _ ⟨pw_cell_below HB7.out hx0, pw_cell_below HB7.out hx1⟩ (fun hHeld => ?_)
     clear hK K
     (refine norm_ (a' := ?_) ?_ ?_; rotate_left; (show Act.put _ (some 18) _ = _; (go_simp; rfl)))
     (refine pure_ (i := 6) (v := ?_) (a' := ?_) (bsT 34 7) rfl rfl (by kernel_rfl) (fun _ _ _ h => h) (Or.inl ⟨by rfl, ?_⟩) ?_ ?_; rotate_left; (intro w'; go_simp; with_reducible rfl); rotate_left; (go_simp; rfl))
     (refine pure_ (i := 7) (v := ?_) (a' := ?_) (bsT 34 8) rfl rfl (by kernel_rfl) (fun _ _ _ h => h) (Or.inl ⟨by rfl, ?_⟩) ?_ ?_; rotate_left; (intro w'; go_simp; with_reducible rfl); rotate_left; (go_simp; rfl))
     (refine pure_ (i := 8) (v := undef) (a' := ?_) (bsT 34 9) rfl rfl (by kernel_rfl) (fun _ _ _ h => h) (Or.inr ⟨by rfl, rfl⟩) ?_ ?_; rotate_left; (go_simp; rfl))
     (refine pure_ (i := 9) (v := undef) (a' := ?_) (bsT 34 10) rfl rfl (by kernel_rfl) (fun _ _ _ h => h) (Or.inr ⟨by rfl, rfl⟩) ?_ ?_; rotate_left; (go_simp; rfl))
     (refine pure_ (i := 10) (v := undef) (a' := ?_) (bsT 34 11) rfl rfl (by kernel_rfl) (fun _ _ _ h => h) (Or.inr ⟨by rfl, rfl⟩) ?_ ?_; rotate_left; (go_simp; rfl))
     (refine pure_ (i := 11) (v := undef) (a' := ?_) (bsT 34 12) rfl rfl (by kernel_rfl) (fun _ _ _ h => h) (Or.inr ⟨by rfl, rfl⟩) ?_ ?_; rotate_left; (go_simp; rfl))
     (refine pure_ (i := 12) (v := undef) (a' := ?_) (bsT 34 13) rfl rfl (by kernel_rfl) (fun _ _ _ h => h) (Or.inr ⟨by rfl, rfl⟩) ?_ ?_; rotate_left; (go_simp; rfl))
     (refine pure_ (i := 13) (v := undef) (a' := ?_) (bsT 34 14) rfl rfl (by kernel_rfl) (fun _ _ _ h => h) (Or.inr ⟨by rfl, rfl⟩) ?_ ?_; rotate_left; (go_simp; rfl))
     (refine pure_ (i := 14) (v := undef) (a' := ?_) (bsT 34 15) rfl rfl (by kernel_rfl) (fun _ _ _ h => h) (Or.inr ⟨by rfl, rfl⟩) ?_ ?_; rotate_left; (go_simp; rfl))
     (refine pure_ (i := 15) (v := ?_) (a' := ?_) (bsT 34 16) rfl rfl (by kernel_rfl) (fun _ _ _ h => h) (Or.inl ⟨by rfl, ?_⟩) ?_ ?_; rotate_left; (intro w'; go_simp; with_reducible rfl); rotate_left; (go_simp; rfl))
     (refine pure_ (i := 16) (v := ?_) (a' := ?_) (bsT 34 17) rfl rfl (by kernel_rfl) (fun _ _ _ h => h) (Or.inl ⟨by rfl, ?_⟩) ?_ ?_; rotate_left; (intro w'; go_simp; with_reducible rfl); rotate_left; (go_simp; rfl))
     (refine pure_ (i := 17) (v := undef) (a' := ?_) (bsT 34 18) rfl rfl (by kernel_rfl) (fun _ _ _ h => h) (Or.inr ⟨by rfl, rfl⟩) ?_ ?_; rotate_left; (go_simp; rfl))
     (refine pure_ (i := 18) (v := undef) (a' := ?_) (bsT 34 19) rfl rfl (by kernel_rfl) (fun _ _ _ h => h) (Or.inr ⟨by rfl, rfl⟩) ?_ ?_; rotate_left; (go_simp; rfl))
     (refine pure_ (i := 19) (v := undef) (a' := ?_) (bsT 34 20) rfl rfl (by kernel_rfl) (fun _ _ _ h => h) (Or.inr ⟨by rfl, rfl⟩) ?_ ?_; rotate_left; (go_simp; rfl))
     (refine pure_ (i := 20) (v := undef) (a' := ?_) (bsT 34 21) rfl rfl (by kernel_rfl) (fun _ _ _ h => h) (Or.inr ⟨by rfl, rfl⟩) ?_ ?_; rotate_left; (go_simp; rfl))
     (refine pure_ (i := 21) (v := undef) (a' := ?_) (bsT 34 22) rfl rfl (by kernel_rfl) (fun _ _ _ h => h) (Or.inr ⟨by rfl, rfl⟩) ?_ ?_; rotate_left; (go_simp; rfl))
     (refine pure_ (i := 22) (v := undef) (a' := ?_) (bsT 34 23) rfl rfl (by kernel_rfl) (fun _ _ _ h => h) (Or.inr ⟨by rfl, rfl⟩) ?_ ?_; rotate_left; (go_simp; rfl))
     (refine pure_ (i := 23) (v := undef) (a' := ?_) (bsT 34 24) rfl rfl (by kernel_rfl) (fun _ _ _ h => h) (Or.inr ⟨by rfl, rfl⟩) ?_ ?_; rotate_left; (go_simp; rfl))
     (refine pure_ (i := 24) (v := undef) (a' := ?_) (bsT 34 25) rfl rfl (by kernel_rfl) (fun _ _ _ h => h) (Or.inr ⟨by rfl, rfl⟩) ?_ ?_; rotate_left; (go_simp; rfl))
     (refine pure_ (i := 25) (v := undef) (a' := ?_) (bsT 34 26) rfl rfl (by kernel_rfl) (fun _ _ _ h => h) (Or.inr ⟨by rfl, rfl⟩) ?_ ?_; rotate_left; (go_simp; rfl))
     (refine pure_ (i := 26) (v := undef) (a' := ?_) (bsT 34 27) rfl rfl (by kernel_rfl) (fun _ _ _ h => h) (Or.inr ⟨by rfl, rfl⟩) ?_ ?_; rotate_left; (go_simp; rfl))
     (refine pure_ (i := 27) (v := undef) (a' := ?_) (bsT 34 28) rfl rfl (by kernel_rfl) (fun _ _ _ h => h) (Or.inr ⟨by rfl, rfl⟩) ?_ ?_; rotate_left; (go_simp; rfl))
     (refine pure_ (i := 28) (v := undef) (a' := ?_) (bsT 34 29) rfl rfl (by kernel_rfl) (fun _ _ _ h => h) (Or.inr ⟨by rfl, rfl⟩) ?_ ?_; rotate_left; (go_simp; rfl))
     (refine pure_ (i := 29) (v := undef) (a' := ?_) (bsT 34 30) rfl rfl (by kernel_rfl) (fun _ _ _ h => h) (Or.inr ⟨by rfl, rfl⟩) ?_ ?_; rotate_left; (go_simp; rfl))
     (refine pure_ (i := 30) (v := undef) (a' := ?_) (bsT 34 31) rfl rfl (by kernel_rfl) (fun _ _ _ h => h) (Or.inr ⟨by rfl, rfl⟩) ?_ ?_; rotate_left; (go_simp; rfl))
     (refine pure_ (i := 31) (v := undef) (a' := ?_) (bsT 34 32) rfl rfl (by kernel_rfl) (fun _ _ _ h => h) (Or.inr ⟨by rfl, rfl⟩) ?_ ?_; rotate_left; (go_simp; rfl))
     (refine pure_ (i := 32) (v := undef) (a' := ?_) (bsT 34 33) rfl rfl (by kernel_rfl) (fun _ _ _ h => h) (Or.inr ⟨by rfl, rfl⟩) ?_ ?_; rotate_left; (go_simp; rfl))
     (refine pure_ (i := 33) (v := ?_) (a' := ?_) (bsT 34 34) rfl rfl (by kernel_rfl) (fun _ _ _ h => h) (Or.inl ⟨by rfl, ?_⟩) ?_ ?_; rotate_left; (intro w'; go_simp; with_reducible rfl); rotate_left; (go_simp; rfl))
     refine done_ (by kernel_rfl) ?_
     go_wp2_with fail
     go_meet
     exact ⟨by rw [hbq], HB7⟩
    | true =>
     rw [if_neg (by decide)] at hbd
     by_cases e1 : 128 < x.f1.size
     ·
      have hbq : bq = true := by rw [← hbd, if_pos e1]
      have f1 : decide ((x.f1.size : Int) > 128) = true := decide_eq_true (by omega)
      have f1n : decide (128 < x.f1.size) = true := decide_eq_true e1
      clear hbd e1
      refine start_ (n := 34) (S := fun w' => w'.cell? (ad.add (j * 2)) = some (.string x.f0) ∧ w'.cell? ⟨(ad.add (j * 2)).block, (ad.add (j * 2)).off + 1, none⟩ = some (.string x.f1)) (ds := []) (bsT 34 0) (by kernel_rfl) rfl (by kernel_rfl) ⟨hx0, hx1⟩ (fun hHeld => ?_)
      (refine pure_ (i := 0) (v := ?_) (a' := ?_) (bsT 34 1) rfl rfl (by kernel_rfl) (fun _ _ _ h => h) (Or.inl ⟨by rfl, ?_⟩) ?_ ?_; rotate_left; (intro w'; go_simp; with_reducible rfl); rotate_left; (go_simp; rfl))
      (refine pure_ (i := 1) (v := ?_) (a' := ?_) (bsT 34 2) rfl rfl (by kernel_rfl) (fun _ _ _ h => h) (Or.inl ⟨by rfl, ?_⟩) ?_ ?_; rotate_left; (intro w'; go_simp; with_reducible rfl); rotate_left; (go_simp; rfl))
      (refine pure_ (i := 2) (v := ?_) (a' := ?_) (bsT 34 3) rfl rfl (by kernel_rfl) (fun _ _ _ h => h) (Or.inl ⟨by rfl, ?_⟩) ?_ ?_; rotate_left; (intro w'; go_simp; with_reducible rfl); rotate_left; (go_simp; rfl))
      (refine pure_ (i := 3) (v := ?_) (a' := ?_) (bsT 34 4) rfl rfl (by kernel_rfl) (fun _ _ _ h => h) (Or.inl ⟨by rfl, ?_⟩) ?_ ?_; rotate_left; (intro w'; go_simp; with_reducible rfl); rotate_left; (go_simp; rfl))
      (refine take_ (i := 4) (v := ?_) (a' := ?_) (bsT 34 5) rfl rfl (by kernel_rfl) (fun _ _ _ h => h) (Or.inl ⟨by rfl, ?_⟩) hHeld ?_ ?_; rotate_left; (rintro w' ⟨s0, s1⟩; go_simp; with_reducible rfl); rotate_left; (go_simp; rfl))
      refine one_ (i := 5) (N := (some 18)) (bsT 34 6) rfl rfl (by kernel_rfl) (by decide) (fun K hK => ?_)
      refine goes_ Try.func74 (by kernel_rfl) rfl #[.string x.f0] (by rfl) rfl rfl (by (try simp only [List.map_toArray, List.map_cons, List.map_nil]); first | done | rfl) ?_
      refine (HLE.out wr.drew).mono ?_
      rintro e w7 ⟨rfl, hd7⟩
      refine ⟨_, rfl, ?_⟩
      have HB7 : Aside0 (Below wr.heap.size wr w7) := ⟨(below_drew1 (Below.refl _ _)).trans hd7.below⟩
      clear hd7
      refine hK.out _ _ ⟨pw_cell_below HB7.out hx0, pw_cell_below HB7.out hx1⟩ (fun hHeld => ?_)
      clear hK K
      (refine norm_ (a' := ?_) ?_ ?_; rotate_left; (show Act.put _ (some 18) _ = _; (go_simp; rfl)))
      (refine pure_ (i := 6) (v := ?_) (a' := ?_) (bsT 34 7) rfl rfl (by kernel_rfl) (fun _ _ _ h => h) (Or.inl ⟨by rfl, ?_⟩) ?_ ?_; rotate_left; (intro w'; go_simp; with_reducible rfl); rotate_left; (go_simp; rfl))
      (refine pure_ (i := 7) (v := ?_) (a' := ?_) (bsT 34 8) rfl rfl (by kernel_rfl) (fun _ _ _ h => h) (Or.inl ⟨by rfl, ?_⟩) ?_ ?_; rotate_left; (intro w'; go_simp; with_reducible rfl); rotate_left; (go_simp; rfl))
      (refine pure_ (i := 8) (v := ?_) (a' := ?_) (bsT 34 9) rfl rfl (by kernel_rfl) (fun _ _ _ h => h) (Or.inl ⟨by rfl, ?_⟩) ?_ ?_; rotate_left; (intro w'; go_simp; with_reducible rfl); rotate_left; (go_simp; rfl))
      (refine pure_ (i := 9) (v := ?_) (a' := ?_) (bsT 34 10) rfl rfl (by kernel_rfl) (fun _ _ _ h => h) (Or.inl ⟨by rfl, ?_⟩) ?_ ?_; rotate_left; (intro w'; go_simp; with_reducible rfl); rotate_left; (go_simp; rfl))
      (refine pure_ (i := 10) (v := ?_) (a' := ?_) (bsT 34 11) rfl rfl (by kernel_rfl) (fun _ _ _ h => h) (Or.inl ⟨by rfl, ?_⟩) ?_ ?_; rotate_left; (intro w'; go_simp; with_reducible rfl); rotate_left; (go_simp; rfl))
      (refine pure_ (i := 11) (v := ?_) (a' := ?_) (bsT 34 12) rfl rfl (by kernel_rfl) (fun _ _ _ h => h) (Or.inl ⟨by rfl, ?_⟩) ?_ ?_; rotate_left; (intro w'; go_simp; with_reducible rfl); rotate_left; (go_simp; rfl))
      (refine take_ (i := 12) (v := ?_) (a' := ?_) (bsT 34 13) rfl rfl (by kernel_rfl) (fun _ _ _ h => h) (Or.inl ⟨by rfl, ?_⟩) hHeld ?_ ?_; rotate_left; (rintro w' ⟨s0, s1⟩; go_simp; with_reducible rfl); rotate_left; (go_simp; rfl))
      (refine pure_ (i := 13) (v := ?_) (a' := ?_) (bsT 34 14) rfl rfl (by kernel_rfl) (fun _ _ _ h => h) (Or.inl ⟨by rfl, ?_⟩) ?_ ?_; rotate_left; (intro w'; go_simp; with_reducible rfl); rotate_left; (go_simp; rfl))
      (refine pure_ (i := 14) (v := ?_) (a' := ?_) (bsT 34 15) rfl rfl (by kernel_rfl) (fun _ _ _ h => h) (Or.inl ⟨by rfl, ?_⟩) ?_ ?_; rotate_left; (intro w'; go_simp; with_reducible rfl); rotate_left; (go_simp; rfl))
      (refine pure_ (i := 15) (v := ?_) (a' := ?_) (bsT 34 16) rfl rfl (by kernel_rfl) (fun _ _ _ h => h) (Or.inl ⟨by rfl, ?_⟩) ?_ ?_; rotate_left; (intro w'; go_simp; with_reducible rfl); rotate_left; (go_simp; rfl))
      (refine pure_ (i := 16) (v := ?_) (a' := ?_) (bsT 34 17) rfl rfl (by kernel_rfl) (fun _ _ _ h => h) (Or.inl ⟨by rfl, ?_⟩) ?_ ?_; rotate_left; (intro w'; go_simp; with_reducible rfl); rotate_left; (go_simp; rfl))
      (refine pure_ (i := 17) (v := undef) (a' := ?_) (bsT 34 18) rfl rfl (by kernel_rfl) (fun _ _ _ h => h) (Or.inr ⟨by rfl, rfl⟩) ?_ ?_; rotate_left; (go_simp; rfl))
      (refine pure_ (i := 18) (v := undef) (a' := ?_) (bsT 34 19) rfl rfl (by kernel_rfl) (fun _ _ _ h => h) (Or.inr ⟨by rfl, rfl⟩) ?_ ?_; rotate_left; (go_simp; rfl))
      (refine pure_ (i := 19) (v := undef) (a' := ?_) (bsT 34 20) rfl rfl (by kernel_rfl) (fun _ _ _ h => h) (Or.inr ⟨by rfl, rfl⟩) ?_ ?_; rotate_left; (go_simp; rfl))
      (refine pure_ (i := 20) (v := undef) (a' := ?_) (bsT 34 21) rfl rfl (by kernel_rfl) (fun _ _ _ h => h) (Or.inr ⟨by rfl, rfl⟩) ?_ ?_; rotate_left; (go_simp; rfl))
      (refine pure_ (i := 21) (v := undef) (a' := ?_) (bsT 34 22) rfl rfl (by kernel_rfl) (fun _ _ _ h => h) (Or.inr ⟨by rfl, rfl⟩) ?_ ?_; rotate_left; (go_simp; rfl))
      (refine pure_ (i := 22) (v := undef) (a' := ?_) (bsT 34 23) rfl rfl (by kernel_rfl) (fun _ _ _ h => h) (Or.inr ⟨by rfl, rfl⟩) ?_ ?_; rotate_left; (go_simp; rfl))
      (refine pure_ (i := 23) (v := undef) (a' := ?_) (bsT 34 24) rfl rfl (by kernel_rfl) (fun _ _ _ h => h) (Or.inr ⟨by rfl, rfl⟩) ?_ ?_; rotate_left; (go_simp; rfl))
      (refine pure_ (i := 24) (v := undef) (a' := ?_) (bsT 34 25) rfl rfl (by kernel_rfl) (fun _ _ _ h => h) (Or.inr ⟨by rfl, rfl⟩) ?_ ?_; rotate_left; (go_simp; rfl))
      (refine pure_ (i := 25) (v := undef) (a' := ?_) (bsT 34 26) rfl rfl (by kernel_rfl) (fun _ _ _ h => h) (Or.inr ⟨by rfl, rfl⟩) ?_ ?_; rotate_left; (go_simp; rfl))
      (refine pure_ (i := 26) (v := undef) (a' := ?_) (bsT 34 27) rfl rfl (by kernel_rfl) (fun _ _ _ h => h) (Or.inr ⟨by rfl, rfl⟩) ?_ ?_; rotate_left; (go_simp; rfl))
      (refine pure_ (i := 27) (v := undef) (a' := ?_) (bsT 34 28) rfl rfl (by kernel_rfl) (fun _ _ _ h => h) (Or.inr ⟨by rfl, rfl⟩) ?_ ?_; rotate_left; (go_simp; rfl))
      (refine pure_ (i := 28) (v := undef) (a' := ?_) (bsT 34 29) rfl rfl (by kernel_rfl) (fun _ _ _ h => h) (Or.inr ⟨by rfl, rfl⟩) ?_ ?_; rotate_left; (go_simp; rfl))
      (refine pure_ (i := 29) (v := undef) (a' := ?_) (bsT 34 30) rfl rfl (by kernel_rfl) (fun _ _ _ h => h) (Or.inr ⟨by rfl, rfl⟩) ?_ ?_; rotate_left; (go_simp; rfl))
      (refine pure_ (i := 30) (v := undef) (a' := ?_) (bsT 34 31) rfl rfl (by kernel_rfl) (fun _ _ _ h => h) (Or.inr ⟨by rfl, rfl⟩) ?_ ?_; rotate_left; (go_simp; rfl))
      (refine pure_ (i := 31) (v := undef) (a' := ?_) (bsT 34 32) rfl rfl (by kernel_rfl) (fun _ _ _ h => h) (Or.inr ⟨by rfl, rfl⟩) ?_ ?_; rotate_left; (go_simp; rfl))
      (refine pure_ (i := 32) (v := undef) (a' := ?_) (bsT 34 33) rfl rfl (by kernel_rfl) (fun _ _ _ h => h) (Or.inr ⟨by rfl, rfl⟩) ?_ ?_; rotate_left; (go_simp; rfl))
      (refine pure_ (i := 33) (v := ?_) (a' := ?_) (bsT 34 34) rfl rfl (by kernel_rfl) (fun _ _ _ h => h) (Or.inl ⟨by rfl, ?_⟩) ?_ ?_; rotate_left; (intro w'; go_simp; with_reducible rfl); rotate_left; (go_simp; rfl))
      refine done_ (by kernel_rfl) ?_
      go_wp2_with fail
      go_meet
      exact ⟨by rw [hbq], HB7⟩
     ·
      rw [if_neg e1] at hbd
      have f1 : decide ((x.f1.size : Int) > 128) = false := decide_eq_false (by omega)
      have f1n : decide (128 < x.f1.size) = false := decide_eq_false e1
      clear e1
      by_cases e0 : j = 0
      ·
       have hbq : bq = false := by rw [← hbd, if_pos e0]
       have f0 : decide ((j : Int) > 0) = false := decide_eq_false (by omega)
       have f0n : decide (0 < j) = false := decide_eq_false (by omega)
       clear hbd e0
       refine start_ (n := 34) (S := fun w' => w'.cell? (ad.add (j * 2)) = some (.string x.f0) ∧ w'.cell? ⟨(ad.add (j * 2)).block, (ad.add (j * 2)).off + 1, none⟩ = some (.string x.f1)) (ds := []) (bsT 34 0) (by kernel_rfl) rfl (by kernel_rfl) ⟨hx0, hx1⟩ (fun hHeld => ?_)
       (refine pure_ (i := 0) (v := ?_) (a' := ?_) (bsT 34 1) rfl rfl (by kernel_rfl) (fun _ _ _ h => h) (Or.inl ⟨by rfl, ?_⟩) ?_ ?_; rotate_left; (intro w'; go_simp; with_reducible rfl); rotate_left; (go_simp; rfl))
       (refine pure_ (i := 1) (v := ?_) (a' := ?_) (bsT 34 2) rfl rfl (by kernel_rfl) (fun _ _ _ h => h) (Or.inl ⟨by rfl, ?_⟩) ?_ ?_; rotate_left; (intro w'; go_simp; with_reducible rfl); rotate_left; (go_simp; rfl))
       (refine pure_ (i := 2) (v := ?_) (a' := ?_) (bsT 34 3) rfl rfl (by kernel_rfl) (fun _ _ _ h => h) (Or.inl ⟨by rfl, ?_⟩) ?_ ?_; rotate_left; (intro w'; go_simp; with_reducible rfl); rotate_left; (go_simp; rfl))
       (refine pure_ (i := 3) (v := ?_) (a' := ?_) (bsT 34 4) rfl rfl (by kernel_rfl) (fun _ _ _ h => h) (Or.inl ⟨by rfl, ?_⟩) ?_ ?_; rotate_left; (intro w'; go_simp; with_reducible rfl); rotate_left; (go_simp; rfl))
       (refine take_ (i := 4) (v := ?_) (a' := ?_) (bsT 34 5) rfl rfl (by kernel_rfl) (fun _ _ _ h => h) (Or.inl ⟨by rfl, ?_⟩) hHeld ?_ ?_; rotate_left; (rintro w' ⟨s0, s1⟩; go_simp; with_reducible rfl); rotate_left; (go_simp; rfl))
       refine one_ (i := 5) (N := (some 18)) (bsT 34 6) rfl rfl (by kernel_rfl) (by decide) (fun K hK => ?_)
       refine goes_ Try.func74 (by kernel_rfl) rfl #[.string x.f0] (by rfl) rfl rfl (by (try simp only [List.map_toArray, List.map_cons, List.map_nil]); first | done | rfl) ?_
       refine (HLE.out wr.drew).mono ?_
       rintro e w7 ⟨rfl, hd7⟩
       refine ⟨_, rfl, ?_⟩
       have HB7 : Aside0 (Below wr.heap.size wr w7) := ⟨(below_drew1 (Below.refl _ _)).trans hd7.below⟩
       clear hd7
       refine hK.out _ _ ⟨pw_cell_below HB7.out hx0, pw_cell_below HB7.out hx1⟩ (fun hHeld => ?_)
       clear hK K
       (refine norm_ (a' := ?_) ?_ ?_; rotate_left; (show Act.put _ (some 18) _ = _; (go_simp; rfl)))
       (refine pure_ (i := 6) (v := ?_) (a' := ?_) (bsT 34 7) rfl rfl (by kernel_rfl) (fun _ _ _ h => h) (Or.inl ⟨by rfl, ?_⟩) ?_ ?_; rotate_left; (intro w'; go_simp; with_reducible rfl); rotate_left; (go_simp; rfl))
       (refine pure_ (i := 7) (v := ?_) (a' := ?_) (bsT 34 8) rfl rfl (by kernel_rfl) (fun _ _ _ h => h) (Or.inl ⟨by rfl, ?_⟩) ?_ ?_; rotate_left; (intro w'; go_simp; with_reducible rfl); rotate_left; (go_simp; rfl))
       (refine pure_ (i := 8) (v := ?_) (a' := ?_) (bsT 34 9) rfl rfl (by kernel_rfl) (fun _ _ _ h => h) (Or.inl ⟨by rfl, ?_⟩) ?_ ?_; rotate_left; (intro w'; go_simp; with_reducible rfl); rotate_left; (go_simp; rfl))
       (refine pure_ (i := 9) (v := ?_) (a' := ?_) (bsT 34 10) rfl rfl (by kernel_rfl) (fun _ _ _ h => h) (Or.inl ⟨by rfl, ?_⟩) ?_ ?_; rotate_left; (intro w'; go_simp; with_reducible rfl); rotate_left; (go_simp; rfl))
       (refine pure_ (i := 10) (v := ?_) (a' := ?_) (bsT 34 11) rfl rfl (by kernel_rfl) (fun _ _ _ h => h) (Or.inl ⟨by rfl, ?_⟩) ?_ ?_; rotate_left; (intro w'; go_simp; with_reducible rfl); rotate_left; (go_simp; rfl))
       (refine pure_ (i := 11) (v := ?_) (a' := ?_) (bsT 34 12) rfl rfl (by kernel_rfl) (fun _ _ _ h => h) (Or.inl ⟨by rfl, ?_⟩) ?_ ?_; rotate_left; (intro w'; go_simp; with_reducible rfl); rotate_left; (go_simp; rfl))
       (refine take_ (i := 12) (v := ?_) (a' := ?_) (bsT 34 13) rfl rfl (by kernel_rfl) (fun _ _ _ h => h) (Or.inl ⟨by rfl, ?_⟩) hHeld ?_ ?_; rotate_left; (rintro w' ⟨s0, s1⟩; go_simp; with_reducible rfl); rotate_left; (go_simp; rfl))
       (refine pure_ (i := 13) (v := ?_) (a' := ?_) (bsT 34 14) rfl rfl (by kernel_rfl) (fun _ _ _ h => h) (Or.inl ⟨by rfl, ?_⟩) ?_ ?_; rotate_left; (intro w'; go_simp; with_reducible rfl); rotate_left; (go_simp; rfl))
       (refine pure_ (i := 14) (v := ?_) (a' := ?_) (bsT 34 15) rfl rfl (by kernel_rfl) (fun _ _ _ h => h) (Or.inl ⟨by rfl, ?_⟩) ?_ ?_; rotate_left; (intro w'; go_simp; with_reducible rfl); rotate_left; (go_simp; rfl))
       (refine pure_ (i := 15) (v := ?_) (a' := ?_) (bsT 34 16) rfl rfl (by kernel_rfl) (fun _ _ _ h => h) (Or.inl ⟨by rfl, ?_⟩) ?_ ?_; rotate_left; (intro w'; go_simp; with_reducible rfl); rotate_left; (go_simp; rfl))
       (refine pure_ (i := 16) (v := ?_) (a' := ?_) (bsT 34 17) rfl rfl (by kernel_rfl) (fun _ _ _ h => h) (Or.inl ⟨by rfl, ?_⟩) ?_ ?_; rotate_left; (intro w'; go_simp; with_reducible rfl); rotate_left; (go_simp; rfl))
       (refine pure_ (i := 17) (v := ?_) (a' := ?_) (bsT 34 18) rfl rfl (by kernel_rfl) (fun _ _ _ h => h) (Or.inl ⟨by rfl, ?_⟩) ?_ ?_; rotate_left; (intro w'; go_simp; with_reducible rfl); rotate_left; (go_simp; rfl))
       (refine pure_ (i := 18) (v := ?_) (a' := ?_) (bsT 34 19) rfl rfl (by kernel_rfl) (fun _ _ _ h => h) (Or.inl ⟨by rfl, ?_⟩) ?_ ?_; rotate_left; (intro w'; go_simp; with_reducible rfl); rotate_left; (go_simp; rfl))
       (refine pure_ (i := 19) (v := ?_) (a' := ?_) (bsT 34 20) rfl rfl (by kernel_rfl) (fun _ _ _ h => h) (Or.inl ⟨by rfl, ?_⟩) ?_ ?_; rotate_left; (intro w'; go_simp; with_reducible rfl); rotate_left; (go_simp; rfl))
       (refine pure_ (i := 20) (v := undef) (a' := ?_) (bsT 34 21) rfl rfl (by kernel_rfl) (fun _ _ _ h => h) (Or.inr ⟨by rfl, rfl⟩) ?_ ?_; rotate_left; (go_simp; rfl))
       (refine pure_ (i := 21) (v := undef) (a' := ?_) (bsT 34 22) rfl rfl (by kernel_rfl) (fun _ _ _ h => h) (Or.inr ⟨by rfl, rfl⟩) ?_ ?_; rotate_left; (go_simp; rfl))
       (refine pure_ (i := 22) (v := undef) (a' := ?_) (bsT 34 23) rfl rfl (by kernel_rfl) (fun _ _ _ h => h) (Or.inr ⟨by rfl, rfl⟩) ?_ ?_; rotate_left; (go_simp; rfl))
       (refine pure_ (i := 23) (v := undef) (a' := ?_) (bsT 34 24) rfl rfl (by kernel_rfl) (fun _ _ _ h => h) (Or.inr ⟨by rfl, rfl⟩) ?_ ?_; rotate_left; (go_simp; rfl))
       (refine pure_ (i := 24) (v := undef) (a' := ?_) (bsT 34 25) rfl rfl (by kernel_rfl) (fun _ _ _ h => h) (Or.inr ⟨by rfl, rfl⟩) ?_ ?_; rotate_left; (go_simp; rfl))
       (refine pure_ (i := 25) (v := undef) (a' := ?_) (bsT 34 26) rfl rfl (by kernel_rfl) (fun _ _ _ h => h) (Or.inr ⟨by rfl, rfl⟩) ?_ ?_; rotate_left; (go_simp; rfl))
       (refine pure_ (i := 26) (v := undef) (a' := ?_) (bsT 34 27) rfl rfl (by kernel_rfl) (fun _ _ _ h => h) (Or.inr ⟨by rfl, rfl⟩) ?_ ?_; rotate_left; (go_simp; rfl))
       (refine pure_ (i := 27) (v := undef) (a' := ?_) (bsT 34 28) rfl rfl (by kernel_rfl) (fun _ _ _ h => h) (Or.inr ⟨by rfl, rfl⟩) ?_ ?_; rotate_left; (go_simp; rfl))
       (refine pure_ (i := 28) (v := undef) (a' := ?_) (bsT 34 29) rfl rfl (by kernel_rfl) (fun _ _ _ h => h) (Or.inr ⟨by rfl, rfl⟩) ?_ ?_; rotate_left; (go_simp; rfl))
       (refine pure_ (i := 29) (v := undef) (a' := ?_) (bsT 34 30) rfl rfl (by kernel_rfl) (fun _ _ _ h => h) (Or.inr ⟨by rfl, rfl⟩) ?_ ?_; rotate_left; (go_simp; rfl))
       (refine pure_ (i := 30) (v := undef) (a' := ?_) (bsT 34 31) rfl rfl (by kernel_rfl) (fun _ _ _ h => h) (Or.inr ⟨by rfl, rfl⟩) ?_ ?_; rotate_left; (go_simp; rfl))
       (refine pure_ (i := 31) (v := undef) (a' := ?_) (bsT 34 32) rfl rfl (by kernel_rfl) (fun _ _ _ h => h) (Or.inr ⟨by rfl, rfl⟩) ?_ ?_; rotate_left; (go_simp; rfl))
       (refine pure_ (i := 32) (v := ?_) (a' := ?_) (bsT 34 33) rfl rfl (by kernel_rfl) (fun _ _ _ h => h) (Or.inl ⟨by rfl, ?_⟩) ?_ ?_; rotate_left; (intro w'; go_simp; with_reducible rfl); rotate_left; (go_simp; rfl))
       (refine pure_ (i := 33) (v := ?_) (a' := ?_) (bsT 34 34) rfl rfl (by kernel_rfl) (fun _ _ _ h => h) (Or.inl ⟨by rfl, ?_⟩) ?_ ?_; rotate_left; (intro w'; go_simp; with_reducible rfl); rotate_left; (go_simp; rfl))
       refine done_ (by kernel_rfl) ?_
       go_wp2_with fail
       go_meet
       exact ⟨by rw [hbq], HB7⟩
      ·
       rw [if_neg e0] at hbd
       have f0 : decide ((j : Int) > 0) = true := decide_eq_true (by omega)
       have f0n : decide (0 < j) = true := decide_eq_true (by omega)
       obtain ⟨ji, hji⟩ : ∃ ji : Int, (j : Int) - 1 = ji := ⟨_, rfl⟩
       have hjw : IntKind.i64.wrap ((j : Int) - 1) = ji := by rw [IntKind.wrap_i64]; omega
       have g1 : 0 ≤ ji := by omega
       have g2 : ji < (n : Int) := by omega
       obtain ⟨bd2, ebd, pc, -⟩ := at_T68 (Kd.C_below HC.out HB.out) ji g1 g2
       obtain rfl : ad = bd2 := Option.some.inj ebd
       rw [← hji, ← HL1.out (by omega), hji] at pc
       obtain ⟨pf, hpf⟩ : ∃ z, lst = z := ⟨_, rfl⟩
       rw [hpf] at pc hbd
       have hbq := hbd.symm
       clear ebd hji hpf hbd e0
       replace g1 := eq_true g1
       replace g2 := eq_true g2
       refine start_ (n := 34) (S := fun w' => w'.cell? (ad.add (j * 2)) = some (.string x.f0) ∧ w'.cell? ⟨(ad.add (j * 2)).block, (ad.add (j * 2)).off + 1, none⟩ = some (.string x.f1) ∧ w'.cell? (ad.add (ji.toNat * 2)) = some (.string pf)) (ds := []) (bsT 34 0) (by kernel_rfl) rfl (by kernel_rfl) ⟨hx0, hx1, pc⟩ (fun hHeld => ?_)
       (refine pure_ (i := 0) (v := ?_) (a' := ?_) (bsT 34 1) rfl rfl (by kernel_rfl) (fun _ _ _ h => h) (Or.inl ⟨by rfl, ?_⟩) ?_ ?_; rotate_left; (intro w'; go_simp; with_reducible rfl); rotate_left; (go_simp; rfl))
       (refine pure_ (i := 1) (v := ?_) (a' := ?_) (bsT 34 2) rfl rfl (by kernel_rfl) (fun _ _ _ h => h) (Or.inl ⟨by rfl, ?_⟩) ?_ ?_; rotate_left; (intro w'; go_simp; with_reducible rfl); rotate_left; (go_simp; rfl))
       (refine pure_ (i := 2) (v := ?_) (a' := ?_) (bsT 34 3) rfl rfl (by kernel_rfl) (fun _ _ _ h => h) (Or.inl ⟨by rfl, ?_⟩) ?_ ?_; rotate_left; (intro w'; go_simp; with_reducible rfl); rotate_left; (go_simp; rfl))
       (refine pure_ (i := 3) (v := ?_) (a' := ?_) (bsT 34 4) rfl rfl (by kernel_rfl) (fun _ _ _ h => h) (Or.inl ⟨by rfl, ?_⟩) ?_ ?_; rotate_left; (intro w'; go_simp; with_reducible rfl); rotate_left; (go_simp; rfl))
       (refine take_ (i := 4) (v := ?_) (a' := ?_) (bsT 34 5) rfl rfl (by kernel_rfl) (fun _ _ _ h => h) (Or.inl ⟨by rfl, ?_⟩) hHeld ?_ ?_; rotate_left; (rintro w' ⟨s0, s1, s2⟩; go_simp; with_reducible rfl); rotate_left; (go_simp; rfl))
       refine one_ (i := 5) (N := (some 18)) (bsT 34 6) rfl rfl (by kernel_rfl) (by decide) (fun K hK => ?_)
       refine goes_ Try.func74 (by kernel_rfl) rfl #[.string x.f0] (by rfl) rfl rfl (by (try simp only [List.map_toArray, List.map_cons, List.map_nil]); first | done | rfl) ?_
       refine (HLE.out wr.drew).mono ?_
       rintro e w7 ⟨rfl, hd7⟩
       refine ⟨_, rfl, ?_⟩
       have HB7 : Aside0 (Below wr.heap.size wr w7) := ⟨(below_drew1 (Below.refl _ _)).trans hd7.below⟩
       clear hd7
       refine hK.out _ _ ⟨pw_cell_below HB7.out hx0, pw_cell_below HB7.out hx1, pw_cell_below HB7.out pc⟩ (fun hHeld => ?_)
       clear hK K
       (refine norm_ (a' := ?_) ?_ ?_; rotate_left; (show Act.put _ (some 18) _ = _; (go_simp; rfl)))
       (refine pure_ (i := 6) (v := ?_) (a' := ?_) (bsT 34 7) rfl rfl (by kernel_rfl) (fun _ _ _ h => h) (Or.inl ⟨by rfl, ?_⟩) ?_ ?_; rotate_left; (intro w'; go_simp; with_reducible rfl); rotate_left; (go_simp; rfl))
       (refine pure_ (i := 7) (v := ?_) (a' := ?_) (bsT 34 8) rfl rfl (by kernel_rfl) (fun _ _ _ h => h) (Or.inl ⟨by rfl, ?_⟩) ?_ ?_; rotate_left; (intro w'; go_simp; with_reducible rfl); rotate_left; (go_simp; rfl))
       (refine pure_ (i := 8) (v := ?_) (a' := ?_) (bsT 34 9) rfl rfl (by kernel_rfl) (fun _ _ _ h => h) (Or.inl ⟨by rfl, ?_⟩) ?_ ?_; rotate_left; (intro w'; go_simp; with_reducible rfl); rotate_left; (go_simp; rfl))
       (refine pure_ (i := 9) (v := ?_) (a' := ?_) (bsT 34 10) rfl rfl (by kernel_rfl) (fun _ _ _ h => h) (Or.inl ⟨by rfl, ?_⟩) ?_ ?_; rotate_left; (intro w'; go_simp; with_reducible rfl); rotate_left; (go_simp; rfl))
       (refine pure_ (i := 10) (v := ?_) (a' := ?_) (bsT 34 11) rfl rfl (by kernel_rfl) (fun _ _ _ h => h) (Or.inl ⟨by rfl, ?_⟩) ?_ ?_; rotate_left; (intro w'; go_simp; with_reducible rfl); rotate_left; (go_simp; rfl))
       (refine pure_ (i := 11) (v := ?_) (a' := ?_) (bsT 34 12) rfl rfl (by kernel_rfl) (fun _ _ _ h => h) (Or.inl ⟨by rfl, ?_⟩) ?_ ?_; rotate_left; (intro w'; go_simp; with_reducible rfl); rotate_left; (go_simp; rfl))
       (refine take_ (i := 12) (v := ?_) (a' := ?_) (bsT 34 13) rfl rfl (by kernel_rfl) (fun _ _ _ h => h) (Or.inl ⟨by rfl, ?_⟩) hHeld ?_ ?_; rotate_left; (rintro w' ⟨s0, s1, s2⟩; go_simp; with_reducible rfl); rotate_left; (go_simp; rfl))
       (refine pure_ (i := 13) (v := ?_) (a' := ?_) (bsT 34 14) rfl rfl (by kernel_rfl) (fun _ _ _ h => h) (Or.inl ⟨by rfl, ?_⟩) ?_ ?_; rotate_left; (intro w'; go_simp; with_reducible rfl); rotate_left; (go_simp; rfl))
       (refine pure_ (i := 14) (v := ?_) (a' := ?_) (bsT 34 15) rfl rfl (by kernel_rfl) (fun _ _ _ h => h) (Or.inl ⟨by rfl, ?_⟩) ?_ ?_; rotate_left; (intro w'; go_simp; with_reducible rfl); rotate_left; (go_simp; rfl))
       (refine pure_ (i := 15) (v := ?_) (a' := ?_) (bsT 34 16) rfl rfl (by kernel_rfl) (fun _ _ _ h => h) (Or.inl ⟨by rfl, ?_⟩) ?_ ?_; rotate_left; (intro w'; go_simp; with_reducible rfl); rotate_left; (go_simp; rfl))
       (refine pure_ (i := 16) (v := ?_) (a' := ?_) (bsT 34 17) rfl rfl (by kernel_rfl) (fun _ _ _ h => h) (Or.inl ⟨by rfl, ?_⟩) ?_ ?_; rotate_left; (intro w'; go_simp; with_reducible rfl); rotate_left; (go_simp; rfl))
       (refine pure_ (i := 17) (v := ?_) (a' := ?_) (bsT 34 18) rfl rfl (by kernel_rfl) (fun _ _ _ h => h) (Or.inl ⟨by rfl, ?_⟩) ?_ ?_; rotate_left; (intro w'; go_simp; with_reducible rfl); rotate_left; (go_simp; rfl))
       (refine pure_ (i := 18) (v := ?_) (a' := ?_) (bsT 34 19) rfl rfl (by kernel_rfl) (fun _ _ _ h => h) (Or.inl ⟨by rfl, ?_⟩) ?_ ?_; rotate_left; (intro w'; go_simp; with_reducible rfl); rotate_left; (go_simp; rfl))
       (refine pure_ (i := 19) (v := ?_) (a' := ?_) (bsT 34 20) rfl rfl (by kernel_rfl) (fun _ _ _ h => h) (Or.inl ⟨by rfl, ?_⟩) ?_ ?_; rotate_left; (intro w'; go_simp; with_reducible rfl); rotate_left; (go_simp; rfl))
       (refine pure_ (i := 20) (v := ?_) (a' := ?_) (bsT 34 21) rfl rfl (by kernel_rfl) (fun _ _ _ h => h) (Or.inl ⟨by rfl, ?_⟩) ?_ ?_; rotate_left; (intro w'; go_simp; with_reducible rfl); rotate_left; (go_simp; rfl))
       (refine pure_ (i := 21) (v := ?_) (a' := ?_) (bsT 34 22) rfl rfl (by kernel_rfl) (fun _ _ _ h => h) (Or.inl ⟨by rfl, ?_⟩) ?_ ?_; rotate_left; (intro w'; go_simp; with_reducible rfl); rotate_left; (go_simp; rfl))
       (refine pure_ (i := 22) (v := ?_) (a' := ?_) (bsT 34 23) rfl rfl (by kernel_rfl) (fun _ _ _ h => h) (Or.inl ⟨by rfl, ?_⟩) ?_ ?_; rotate_left; (intro w'; go_simp; with_reducible rfl); rotate_left; (go_simp; rfl))
       (refine pure_ (i := 23) (v := ?_) (a' := ?_) (bsT 34 24) rfl rfl (by kernel_rfl) (fun _ _ _ h => h) (Or.inl ⟨by rfl, ?_⟩) ?_ ?_; rotate_left; (intro w'; go_simp; with_reducible rfl); rotate_left; (go_simp; rfl))
       (refine take_ (i := 24) (v := ?_) (a' := ?_) (bsT 34 25) rfl rfl (by kernel_rfl) (fun _ _ _ h => h) (Or.inl ⟨by rfl, ?_⟩) hHeld ?_ ?_; rotate_left; (rintro w' ⟨s0, s1, s2⟩; go_simp; with_reducible rfl); rotate_left; (go_simp; rfl))
       (refine pure_ (i := 25) (v := ?_) (a' := ?_) (bsT 34 26) rfl rfl (by kernel_rfl) (fun _ _ _ h => h) (Or.inl ⟨by rfl, ?_⟩) ?_ ?_; rotate_left; (intro w'; go_simp; with_reducible rfl); rotate_left; (go_simp; rfl))
       (refine pure_ (i := 26) (v := ?_) (a' := ?_) (bsT 34 27) rfl rfl (by kernel_rfl) (fun _ _ _ h => h) (Or.inl ⟨by rfl, ?_⟩) ?_ ?_; rotate_left; (intro w'; go_simp; with_reducible rfl); rotate_left; (go_simp; rfl))
       (refine pure_ (i := 27) (v := ?_) (a' := ?_) (bsT 34 28) rfl rfl (by kernel_rfl) (fun _ _ _ h => h) (Or.inl ⟨by rfl, ?_⟩) ?_ ?_; rotate_left; (intro w'; go_simp; with_reducible rfl); rotate_left; (go_simp; rfl))
       (refine pure_ (i := 28) (v := ?_) (a' := ?_) (bsT 34 29) rfl rfl (by kernel_rfl) (fun _ _ _ h => h) (Or.inl ⟨by rfl, ?_⟩) ?_ ?_; rotate_left; (intro w'; go_simp; with_reducible rfl); rotate_left; (go_simp; rfl))
       (refine pure_ (i := 29) (v := ?_) (a' := ?_) (bsT 34 30) rfl rfl (by kernel_rfl) (fun _ _ _ h => h) (Or.inl ⟨by rfl, ?_⟩) ?_ ?_; rotate_left; (intro w'; go_simp; with_reducible rfl); rotate_left; (go_simp; rfl))
       (refine take_ (i := 30) (v := ?_) (a' := ?_) (bsT 34 31) rfl rfl (by kernel_rfl) (fun _ _ _ h => h) (Or.inl ⟨by rfl, ?_⟩) hHeld ?_ ?_; rotate_left; (rintro w' ⟨s0, s1, s2⟩; go_simp; with_reducible rfl); rotate_left; (go_simp; rfl))
       (refine pure_ (i := 31) (v := ?_) (a' := ?_) (bsT 34 32) rfl rfl (by kernel_rfl) (fun _ _ _ h => h) (Or.inl ⟨by rfl, ?_⟩) ?_ ?_; rotate_left; (intro w'; go_simp; with_reducible rfl); rotate_left; (go_simp; rfl))
       (refine pure_ (i := 32) (v := ?_) (a' := ?_) (bsT 34 33) rfl rfl (by kernel_rfl) (fun _ _ _ h => h) (Or.inl ⟨by rfl, ?_⟩) ?_ ?_; rotate_left; (intro w'; go_simp; with_reducible rfl); rotate_left; (go_simp; rfl))
       (refine pure_ (i := 33) (v := ?_) (a' := ?_) (bsT 34 34) rfl rfl (by kernel_rfl) (fun _ _ _ h => h) (Or.inl ⟨by rfl, ?_⟩) ?_ ?_; rotate_left; (intro w'; go_simp; with_reducible rfl); rotate_left; (go_simp; rfl))
       refine done_ (by kernel_rfl) ?_
       go_wp2_with fail
       go_meet
       exact ⟨by rw [hbq], HB7⟩
   case rest =>
    obtain ⟨rfl, HB9⟩ := hcut
    have HBF : Aside0 (Below w.heap.size w wc) := ⟨HB.out.trans (HB9.out.mono HB.out.size)⟩
    clear hx0 hx1
    cases bq with
    | true =>
     have HV : Aside0 (R = false) := ⟨by rw [HZ2.out]; simp⟩
     go_wp2_with fail
     (try go_ret)
     exact ⟨by rw [HV.out]; rfl, HBF.out⟩
    | false =>
     have HV : Aside0 (R = !badAttrs x.f0 (l.drop (j + 1))) := ⟨by rw [HZ2.out]; simp⟩
     go_wp2_with fail
     go_round
     case rel => exact ⟨j + 1, x.f0, by omega, by go_num, HV, ⟨fun h => absurd h (by omega)⟩, ⟨fun _ => HNX.out⟩, HBF⟩
     case measure => simp [intOf]; omega
  ·
   obtain rfl : j = n := by omega
   have HV : Aside0 (R = true) := ⟨by rw [HZ.out, List.drop_eq_nil_of_le (by have := HN.out; omega)]; rfl⟩
   have d9 : decide ((j : Int) < (j : Int)) = false := decide_eq_false (by omega)
   go_wp2_with fail
   go_ret
   exact ⟨by rw [HV.out]; rfl, HB.out⟩
def fanlightref09_Attrs.f (l0 : List S68) : Option Bool := some (attrsB l0)
theorem fanlightref09_Attrs.calls (A0 : Option Addr) (c0 : Nat) (l0 : List S68) (r : Bool) (w : World) (hr0 : Kd.C k68 w A0 l0.length l0) (hc0 : l0.length ≤ c0) (h : fanlightref09_Attrs.f l0 = some r) :
  Calls Try.prog 82 #[.slice A0 l0.length c0] w fun e w' => e = .returned (.bool r) ∧ Below w.heap.size w w' := by
 injection h with h
 subst h
 exact attrsT_is A0 c0 _ l0 w hr0 rfl
end Go.Proofs.Ytleofbidijbahaa.D
