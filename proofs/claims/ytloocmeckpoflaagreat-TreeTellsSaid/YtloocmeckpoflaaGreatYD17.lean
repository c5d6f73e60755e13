import Derived.Test.YtloocmeckpoflaaGreatYD0
import Derived.Test.YtloocmeckpoflaaGreatYD15
import Derived.Test.YtloocmeckpoflaaGreatYD16
namespace Go.Proofs.YtloocmeckpoflaaGreat.D
open Go.RowKit Go.Proofs.YtloocmeckpoflaaGreatW.PrintWords Go.Proofs.YtloocmeckpoflaaGreatW.PrintLast Go.Proofs.YtloocmeckpoflaaGreatW.PrintMore
attribute [local go_sem] max2_int min2_int max_two min_two max_three min_three max_four min_four   -- for this text's walks alone
set_option linter.unusedVariables false
set_option linter.unusedSimpArgs false
def escOne (o : Int) : List Int := (escL o.toNat).getD [o]
def escLs (l : List Int) : List Int := l.flatMap escOne
def escB (s : ByteArray) : ByteArray := strOfNums (escLs (bytesOf s))
def grown1 (l : List Int) : Int := (escLs l).length - l.length
def isEsc (o : Int) : Bool := (escL o.toNat).isSome
theorem infoByte : (Tryz.prog.info? 5).map (fun i => (i.zero, i.size, i.bytes)) = some (some (.int .u8 0), 1, 1) := by kernel_rfl
theorem take_one {l : List Int} {j : Nat} {o : Int} (h : l[j]? = some o) : l.take (j + 1) = l.take j ++ [o] := by
 rw [List.take_add_one, h]; rfl
theorem escLs_snoc (l : List Int) (o : Int) : escLs (l ++ [o]) = escLs l ++ escOne o := by simp [escLs]
theorem str_bytes (s : ByteArray) : strOfNums (bytesOf s) = s := by
 apply ByteArray.ext
 apply Array.toList_inj.1
 show (((bytesOf s).map fun n => UInt8.ofNat n.toNat).toArray).toList = _
 rw [bytesOf, List.map_map]
 refine (List.map_congr_left (g := id) (fun b _ => ?_)).trans (List.map_id _)
 simp
theorem escLs_take {l : List Int} {j : Nat} {o : Int} (h : l[j]? = some o) : (escLs (l.take j)).length + (escOne o).length ≤ (escLs l).length := by
 have e : l = l.take j ++ l.drop j := (List.take_append_drop j l).symm
 have h1 := take_one h
 have e2 : escLs l = escLs (l.take (j + 1)) ++ escLs (l.drop (j + 1)) := by
  conv => lhs; rw [← List.take_append_drop (j + 1) l]
  rw [escLs, List.flatMap_append]
  rfl
 rw [e2, List.length_append, h1, escLs_snoc, List.length_append]
 omega
theorem escL_len {o : Nat} {l : List Int} (h : escL o = some l) : 4 ≤ l.length ∧ l.length ≤ 6 := by
 unfold escL at h
 repeat' split at h
 all_goals first | (cases h; decide) | (cases h)
theorem escOne_len (o : Int) : 1 ≤ (escOne o).length ∧ (escOne o).length ≤ 6 := by
 unfold escOne
 cases h : escL o.toNat with
 | none => simp
 | some l =>
  have := escL_len h
  simp only [Option.getD_some]
  omega
theorem grown1_snoc (l : List Int) (o : Int) : grown1 (l ++ [o]) = grown1 l + ((escOne o).length - 1) := by
 rw [grown1, grown1, escLs_snoc, List.length_append, List.length_append, List.length_singleton]
 omega
theorem grown1_le : ∀ l : List Int, 0 ≤ grown1 l ∧ grown1 l ≤ 5 * l.length
 | [] => by simp [grown1, escLs]
 | a :: l => by
  have h := grown1_le l
  have h1 := escOne_len a
  have e : grown1 (a :: l) = grown1 l + ((escOne a).length - 1) := by
   rw [grown1, grown1, show escLs (a :: l) = escOne a ++ escLs l from by simp [escLs], List.length_append, List.length_cons]
   omega
  rw [e, List.length_cons]
  omega
theorem any_snoc (l : List Int) (o : Int) : (l ++ [o]).any isEsc = (l.any isEsc || isEsc o) := by simp
theorem no_esc : ∀ l : List Int, l.any isEsc = false → escLs l = l
 | [], _ => rfl
 | a :: l, h => by
  rw [List.any_cons, Bool.or_eq_false_iff] at h
  have h1 : escL a.toNat = none := by simpa [isEsc] using h.1
  rw [show escLs (a :: l) = escOne a ++ escLs l from by simp [escLs], no_esc l h.2, escOne, h1]
  rfl
theorem bytes_at (s : ByteArray) (j : Nat) (hj : j < s.size) : (bytesOf s)[j]? = some (((s[j]'hj).toNat : Nat) : Int) := by
 have h : j < s.data.toList.length := by rw [data_length]; exact hj
 rw [bytesOf, List.getElem?_map, List.getElem?_eq_getElem h]
 rfl
theorem TabOk.at {W : World} {f : Nat → Value} (h : TabOk W f [34, 62, 60, 38]) (o : Nat) (ho : o < 256) : (escL o = none ∧ f o = .slice none 0 0) ∨ (∃ (b cap : Nat) (l : List Int) (cs : Array Value) (fr : Nat × Nat), escL o = some l ∧ f o = .slice (some ⟨b, 0, none⟩) l.length cap ∧ l.length ≤ cap ∧ fr ≠ (0, 0) ∧ W.heap[b]? = some (.cells cs 5 fr) ∧ ∀ i, i < l.length → cs[i]? = some (.int .u8 (l.getD i 0))) := by
 by_cases hm : o ∈ [34, 62, 60, 38]
 ·
  exact Or.inr ((h o ho).1 hm)
 ·
  refine Or.inl ⟨?_, (h o ho).2 hm⟩
  simp only [List.mem_cons, List.not_mem_nil, or_false, not_or] at hm
  unfold escL
  rw [if_neg hm.2.2.2, if_neg hm.2.2.1, if_neg hm.2.1, if_neg hm.1]
set_option maxRecDepth 100000 in
theorem count_is (s : ByteArray) (c : UInt8) (w : World) : Calls Tryz.prog 118 #[.string s, .string ⟨#[c]⟩] w fun e w' => e = .returned (.int .i64 (Lib.countByte s.data.toList c)) ∧ w' = w := by
 have hx : (callFunc 120 #[.string s, .int .u8 (c.toNat : Int)]).run Tryz.prog w = .ok (.value (.int .i64 (Lib.countByte s.data.toList c))) w := by
  rw [run_callFunc_extern Tryz.func120 (by kernel_rfl) (by kernel_rfl) (by kernel_rfl) (e := Extern.BytealgCount.count) (by kernel_rfl), Lib.run_countString]
  simp only [Result.andThen]
  simp
 have h0 : ((⟨#[c]⟩ : ByteArray)[0]'(Nat.zero_lt_one)).toNat = c.toNat := rfl
 have h1 : (⟨#[c]⟩ : ByteArray).size = 1 := rfl
 go_enter Tryz.func118, Tryz.ntmps118
 go_wp2
 go_ret
 exact ⟨rfl, rfl⟩
theorem count_bytes (s : ByteArray) (c : UInt8) (o : Int) (ho : (c.toNat : Int) = o) : Lib.countByte s.data.toList c = (bytesOf s).count o := by
 rw [bytesOf, Lib.countByte, ← ho]
 induction s.data.toList with
 | nil => rfl
 | cons a l ih =>
  rw [List.map_cons, List.count_cons, List.count_cons, ih]
  congr 1
  by_cases h : a = c
  ·
   subst h; simp
  ·
   have : ¬ (a.toNat : Int) = (c.toNat : Int) := fun e => h (UInt8.toNat_inj.1 (by omega))
   simp [h, this]
theorem grown1_cons (a : Int) (l : List Int) : grown1 (a :: l) = grown1 l + ((escOne a).length - 1) := by
 rw [grown1, grown1, show escLs (a :: l) = escOne a ++ escLs l from by simp [escLs], List.length_append, List.length_cons]
 omega
def Oct (l : List Int) : Prop := ∀ x ∈ l, 0 ≤ x
theorem oct_bytes (s : ByteArray) : Oct (bytesOf s) := fun x hx => by
 rw [bytesOf] at hx
 obtain ⟨b, _, rfl⟩ := List.mem_map.1 hx
 omega
theorem grown1_count' : ∀ l : List Int, Oct l → grown1 l = 5 * (l.count 34 : Nat) + 3 * (l.count 62 : Nat) + 3 * (l.count 60 : Nat) + 4 * (l.count 38 : Nat)
 | [], _ => rfl
 | a :: l, h => by
  have h0 : 0 ≤ a := h a (by simp)
  rw [grown1_cons, grown1_count' l (fun x hx => h x (by simp [hx])), List.count_cons, List.count_cons, List.count_cons, List.count_cons, escOne, escL]
  by_cases h1 : a = 34
  ·
   subst h1; simp; omega
  by_cases h2 : a = 62
  ·
   subst h2; simp; omega
  by_cases h3 : a = 60
  ·
   subst h3; simp; omega
  by_cases h4 : a = 38
  ·
   subst h4; simp; omega
  rw [if_neg (by omega), if_neg (by omega), if_neg (by omega), if_neg (by omega)]
  simp [h1, h2, h3, h4]
theorem any_count' : ∀ l : List Int, Oct l → l.any isEsc = (l.count 34 != 0 || l.count 62 != 0 || l.count 60 != 0 || l.count 38 != 0)
 | [], _ => rfl
 | a :: l, h => by
  have h0 : 0 ≤ a := h a (by simp)
  rw [List.any_cons, any_count' l (fun x hx => h x (by simp [hx])), List.count_cons, List.count_cons, List.count_cons, List.count_cons, isEsc, escL]
  by_cases h1 : a = 34
  ·
   subst h1; simp
  by_cases h2 : a = 62
  ·
   subst h2; simp
  by_cases h3 : a = 60
  ·
   subst h3; simp
  by_cases h4 : a = 38
  ·
   subst h4; simp
  rw [if_neg (by omega), if_neg (by omega), if_neg (by omega), if_neg (by omega)]
  simp [h1, h2, h3, h4]
theorem grown1_count (s : ByteArray) : grown1 (bytesOf s) = 5 * ((bytesOf s).count 34 : Nat) + 3 * ((bytesOf s).count 62 : Nat) + 3 * ((bytesOf s).count 60 : Nat) + 4 * ((bytesOf s).count 38 : Nat) := grown1_count' (bytesOf s) (oct_bytes s)
theorem any_count (s : ByteArray) : (bytesOf s).any isEsc = ((bytesOf s).count 34 != 0 || (bytesOf s).count 62 != 0 || (bytesOf s).count 60 != 0 || (bytesOf s).count 38 != 0) := any_count' (bytesOf s) (oct_bytes s)
set_option maxRecDepth 100000 in
set_option maxHeartbeats 40000000 in
theorem bsr_is (tb ta tc : Nat) (f : Nat → Value) (s : ByteArray) (hs : s.size ≤ 100000) (w : World) (hT : Tab w tb f (.slice (some ⟨ta, 0, none⟩) 4 tc)) (hK : TabOk w f [34, 62, 60, 38]) (hR : StrRow w ta [⟨#[34]⟩, ⟨#[62]⟩, ⟨#[60]⟩, ⟨#[38]⟩]) :
  Calls Tryz.prog 116 #[.pointer (some ⟨tb, 0, none⟩), .string s] w fun e w' => e = .returned (.string (escB s)) ∧ Below w.heap.size w w' := by
 have t256 := hT.top
 have HT := Aside0.mk hT
 have HK := Aside0.mk hK
 have HR := Aside0.mk hR
 clear hT hK hR
 obtain ⟨n, hn⟩ : ∃ n, s.size = n := ⟨_, rfl⟩
 have hlen : (bytesOf s).length = n := by rw [← hn]; exact bytesOf_length s
 go_enter Tryz.func116, Tryz.ntmps116
 by_cases hc : n < 32
 ·
  have hc' : decide ((32 : Int) ≤ n) = false := decide_eq_false (by omega)
  go_wp2
  go_loopw [5, 6, 10] (fun z a i wr => ∃ j : Nat, j ≤ n ∧ i = .int .i64 j ∧ z = .int .i64 (n + grown1 ((bytesOf s).take j)) ∧ a = .bool (((bytesOf s).take j).any isEsc) ∧ w = wr) (fun z a i _ => n - (intOf i).toNat)
  case atStart => exact ⟨0, by omega, rfl, by simp [grown1, escLs], rfl, rfl⟩
  case round =>
   obtain ⟨j, hj, rfl, rfl, rfl, rfl⟩ := hrel
   by_cases hjn : j < n
   ·
    have hbt := bytes_at s j (by omega)
    have hlt : (s[j]'(by omega)).toNat < 256 := UInt8.toNat_lt _
    obtain ⟨o, ho⟩ : ∃ o : Nat, (s[j]'(by omega)).toNat = o := ⟨_, rfl⟩
    rw [ho] at hbt hlt
    have t0 := HT.out.cell hlt
    have htk := take_one hbt
    have hg1 := grown1_le ((bytesOf s).take j)
    rw [List.length_take, hlen, Nat.min_eq_left hj] at hg1
    have hnil := fun (W : World) (a : Option Addr) (l c : Nat) => run_neq_slice_nil (P := Tryz.prog) W 51 5 a l c Tryz.underlying51
    rcases HK.out.at o hlt with ⟨he, hf⟩ | ⟨b, cap, l, cs, fr, he, hf, hcap, hfr, hblk, hcs⟩
    ·
     rw [hf] at t0
     go_wp2
     refine ⟨⟨j + 1, by omega, by go_num, ?_, ?_, by first | rfl | trivial⟩, by simp [intOf]; omega⟩
     ·
      rw [htk, grown1_snoc, escOne, Int.toNat_natCast, he]
      simp
     ·
      rw [htk, any_snoc, isEsc, Int.toNat_natCast, he]
      simp
    ·
     rw [hf] at t0
     have HBL := Aside0.mk hblk
     have HCS := Aside0.mk hcs
     have hl6 := escL_len he
     clear hblk hcs
     obtain ⟨m, hm⟩ : ∃ m, l.length = m := ⟨_, rfl⟩
     rw [hm] at t0 hl6 hcap
     go_wp2
     refine ⟨⟨j + 1, by omega, by go_num, ?_, ?_, by first | rfl | trivial⟩, by simp [intOf]; omega⟩
     ·
      rw [htk, grown1_snoc, escOne, Int.toNat_natCast, he, Option.getD_some, hm]
      exact congrArg _ (by omega)
     ·
      rw [htk, any_snoc, isEsc, Int.toNat_natCast, he]
      simp
   ·
    obtain rfl : j = n := by omega
    have HBQ : Aside0 (Below w.heap.size w w) := ⟨Below.refl _ _⟩
    have e1 : (bytesOf s).take j = bytesOf s := List.take_of_length_le (by omega)
    rw [e1]
    have hg1 := grown1_le (bytesOf s)
    rw [hlen] at hg1
    obtain ⟨L, hL⟩ : ∃ L, (escLs (bytesOf s)).length = L := ⟨_, rfl⟩
    have hG : ((j : Nat) : Int) + grown1 (bytesOf s) = (L : Int) := by rw [grown1, hL, hlen]; omega
    rw [hG]
    have hL0 : j ≤ L ∧ L ≤ 6 * j := by omega
    clear hg1 hG
    cases hany : (bytesOf s).any isEsc
    ·
     go_wp2
     go_ret
     refine ⟨?_, HBQ.out⟩
     rw [escB, no_esc _ hany, str_bytes]
     rfl
    ·
     obtain ⟨i0, hi0, hz0, hs0, hb0⟩ := info_parts infoByte
     have hmk := run_make (P := Tryz.prog) w 51 5 i0 (.int .u8 0) Tryz.underlying51 hi0 hz0 .i64 .i64 L L (by omega) (by omega) (by rw [hb0]; omega) (by omega)
     rw [hs0, Nat.mul_one, Int.toNat_natCast] at hmk
     obtain ⟨W2, hW2⟩ : ∃ W, w.alloc (.cells (madeCells (Value.int .u8 0).cells L) 5) = W := ⟨_, rfl⟩
     obtain ⟨N, hN⟩ : ∃ N, w.heap.size = N := ⟨_, rfl⟩
     have hb2 := below_alloc (Below.refl w.heap.size w) (.cells (madeCells (Value.int .u8 0).cells L) 5)
     have hx2 : W2.heap[N]? = some (.cells (madeCells (Value.int .u8 0).cells L) 5 (0, 0)) := by rw [← hW2, ← hN]; exact blk_newr rfl
     rw [hW2] at hmk hb2
     rw [hN] at hmk
     have HB2 : Aside0 (Below w.heap.size w W2) := ⟨hb2⟩
     have HX2 : Aside0 (∃ cs : Array Value, W2.heap[N]? = some (.cells cs 5 (0, 0)) ∧ cs.size = L ∧ ∀ m, m < (escLs ((bytesOf s).take 0)).length → cs[m]? = some (.int .u8 ((escLs ((bytesOf s).take 0)).getD m 0))) := ⟨_, hx2, by first | (rw [size_madeCells]; done) | (rw [size_madeCells]; simp), fun m hm => by simp [escLs] at hm⟩
     have HNN : Aside0 (w.heap.size = N) := ⟨hN⟩
     have h0 : Aside0 ((0 : Int) = (((escLs ((bytesOf s).take 0)).length : Nat) : Int)) := ⟨by simp [escLs]⟩
     go_wp2
     clear hmk hW2 hN hb2 hx2 hs0 hb0 hz0 hi0
     go_loopw [13, 14] (fun z i wr => ∃ k : Nat, k ≤ j ∧ i = .int .i64 k ∧ z = .int .i64 ((escLs ((bytesOf s).take k)).length) ∧ Aside0 (∃ cs : Array Value, wr.heap[N]? = some (.cells cs 5 (0, 0)) ∧ cs.size = L ∧ ∀ m, m < (escLs ((bytesOf s).take k)).length → cs[m]? = some (.int .u8 ((escLs ((bytesOf s).take k)).getD m 0))) ∧ Aside0 (Below w.heap.size w wr)) (fun z i _ => j - (intOf i).toNat)
     case atStart => exact ⟨0, by omega, rfl, by rw [← h0.out], HX2, HB2⟩
     case round =>
      obtain ⟨k, hk, rfl, rfl, HX, HB⟩ := hrel
      by_cases hkj : k < j
      ·
       have hbt := bytes_at s k (by omega)
       have hlt : (s[k]'(by omega)).toNat < 256 := UInt8.toNat_lt _
       obtain ⟨o, ho⟩ : ∃ o : Nat, (s[k]'(by omega)).toNat = o := ⟨_, rfl⟩
       rw [ho] at hbt hlt
       have hTr := HT.out.below HB.out
       have htk := take_one hbt
       have hst := escLs_take hbt
       rw [hL] at hst
       obtain ⟨cs, hx, hsz, hcc⟩ := HX.out
       obtain ⟨J, hJ⟩ : ∃ J, (escLs ((bytesOf s).take k)).length = J := ⟨_, rfl⟩
       rw [hJ] at hst hcc
       rw [hJ]
       have t0 := hTr.cell hlt
       have hJL : J < L := by have := escOne_len (o : Int); omega
       have xf := blk_frozen hx J
       have xc := (blk_cell hx J).trans (Array.getElem?_eq_getElem (by omega))
       have hNw := HNN.out
       have hnil := fun (W : World) (a : Option Addr) (l c : Nat) => run_neq_slice_nil (P := Tryz.prog) W 51 5 a l c Tryz.underlying51
       have HXX := Aside0.mk hx
       have HCC := Aside0.mk hcc
       have HNW := Aside0.mk hNw
       clear hx hcc hNw hTr
       rcases HK.out.at o hlt with ⟨he, hf⟩ | ⟨b, cap, l, cs', fr, he, hf, hcap, hfr, hblk, hcs⟩
       ·
        rw [hf] at t0
        go_wp2
        have hoe : escOne (o : Int) = [(o : Int)] := by rw [escOne, Int.toNat_natCast, he]; rfl
        have hlk : (escLs ((bytesOf s).take (k + 1))).length = J + 1 := by rw [htk, escLs_snoc, List.length_append, hJ, hoe]; rfl
        refine ⟨⟨k + 1, by omega, by go_num, by rw [hlk]; go_num, ⟨⟨_, blk_put HXX.out J _ rfl, by rw [Array.size_setIfInBounds]; exact hsz, fun m hm => ?_⟩⟩, ⟨HB.out.setCell (p := ⟨N, J, none⟩) (by have := HNW.out; show _ ≤ N; omega) _⟩⟩, by simp [intOf]; omega⟩
        rw [hlk] at hm
        rw [htk, escLs_snoc, hoe, List.getD_eq_getElem?_getD]
        by_cases hmj : m = J
        ·
         subst hmj
         rw [Array.getElem?_setIfInBounds_self_of_lt (by omega), List.getElem?_append_right (by omega), hJ, Nat.sub_self]
         rfl
        ·
         rw [Array.getElem?_setIfInBounds_ne (fun e => hmj e.symm), List.getElem?_append_left (by omega), ← List.getD_eq_getElem?_getD]
         exact HCC.out m (by omega)
       ·
        rw [hf] at t0
        have HBL := Aside0.mk hblk
        have HCS := Aside0.mk hcs
        have hl6 := escL_len he
        clear hblk hcs
        obtain ⟨m, hm⟩ : ∃ m, l.length = m := ⟨_, rfl⟩
        rw [hm] at t0 hl6 hcap
        go_wp2
        have hoe : escOne (o : Int) = l := by rw [escOne, Int.toNat_natCast, he]; rfl
        rw [hoe, hm] at hst
        have hbr := HB.out.block b (blk_lt HBL.out)
        have hsrc : ∀ (i : Nat) (v : Value), (l.map (fun n => Value.int .u8 n))[i]? = some v → wr.drew.cell? ((⟨b, 0, none⟩ : Addr).add i) = some v := by
         intro i v hv
         rw [List.getElem?_map, Option.map_eq_some_iff] at hv
         obtain ⟨x, hx, rfl⟩ := hv
         rw [add_plain, World.cell?_drew, cell_of_row wr b i cs' 5 fr (hbr.trans HBL.out), HCS.out i (List.getElem?_eq_some_iff.1 hx).1, List.getD_eq_getElem?_getD, hx]
         rfl
        have hcp := run_copy_row (P := Tryz.prog) wr.drew 51 51 3 5 N J (L - J) (L - J) ⟨b, 0, none⟩ m cap cs 5 (l.map (fun n => Value.int .u8 n)) Tryz.underlying51 (by kernel_rfl) HXX.out (by rw [List.length_map, hm]; exact (Nat.min_eq_left (by omega)).symm) hsrc (by rw [List.length_map, hm]; omega) (by intro v hv; obtain ⟨n, _, rfl⟩ := List.mem_map.1 hv; rfl)
        have hHSRC := Aside0.mk hsrc
        clear hsrc
        go_region
        go_wp2
        have hlk : (escLs ((bytesOf s).take (k + 1))).length = J + m := by rw [htk, escLs_snoc, List.length_append, hJ, hoe, hm]
        have hcl : cs.toList.length = L := by rw [Array.length_toList]; exact hsz
        refine ⟨⟨k + 1, by omega, by go_num, by rw [hlk]; go_num, ⟨⟨_, setRow_heap _ _ _ _ _ _ HXX.out, ?_, fun i hi => ?_⟩⟩, ⟨below_setRow (below_drew HB.out) (by have := HNW.out; omega) _⟩⟩, by simp [intOf]; omega⟩
        ·
         rw [List.size_toArray, List.length_append, List.length_append, List.length_take, List.length_drop, List.length_map, hcl, hm]
         omega
        ·
         rw [hlk] at hi
         rw [htk, escLs_snoc, hoe, List.getElem?_toArray, List.getD_eq_getElem?_getD]
         by_cases hij : i < J
         ·
          rw [List.getElem?_append_left (by rw [List.length_take, hcl]; omega), List.getElem?_append_left (by omega), List.getElem?_take, if_pos hij, ← List.getD_eq_getElem?_getD, Array.getElem?_toList]
          exact HCC.out i hij
         ·
          have e3 : (escLs ((bytesOf s).take k) ++ l)[i]? = l[i - J]? := by rw [List.getElem?_append_right (by omega), hJ]
          rw [e3, List.getElem?_append_right (by rw [List.length_take, hcl]; omega), List.length_take, hcl, Nat.min_eq_left (by omega), List.getElem?_append_left (by rw [List.length_map]; omega), List.getElem?_map, List.getElem?_eq_getElem (show i - J < l.length by omega)]
          rfl
      ·
       obtain rfl : k = j := by omega
       obtain ⟨cs, hx, hsz, hcc⟩ := HX.out
       rw [e1] at hcc
       have hcv : (convert 51 9 (.slice (some ⟨N, 0, none⟩) L L)).run Tryz.prog wr = .ok (.string (escB s)) wr := by
        have hr : ReadsInt wr .u8 (some ⟨N, 0, none⟩) L (escLs (bytesOf s)) := ⟨hL, by omega, fun _ => ⟨_, rfl, fun i hi => by
         rw [add_plain]
         exact (blk_cell hx i).trans (hcc i (by omega))⟩⟩
        exact Kd.C_string Tryz.underlying51 Tryz.underlying5 Tryz.underlying9 (Kd.C_of_reads hr)
       clear hx hcc
       go_wp2
       go_ret
       exact ⟨rfl, HBQ.out.trans (HB.out.mono HBQ.out.size)⟩
 ·
  have hc' : decide ((32 : Int) ≤ n) = true := decide_eq_true (by omega)
  have hq34 := count_is s 34
  obtain ⟨c34, hc34⟩ : ∃ c, (bytesOf s).count (34 : Int) = c := ⟨_, rfl⟩
  have hk34 : c34 ≤ n := by rw [← hc34, ← hlen]; exact List.count_le_length
  rw [count_bytes s 34 34 rfl, hc34] at hq34
  have HQ34 := Aside0.mk hq34
  clear hq34
  have hq62 := count_is s 62
  obtain ⟨c62, hc62⟩ : ∃ c, (bytesOf s).count (62 : Int) = c := ⟨_, rfl⟩
  have hk62 : c62 ≤ n := by rw [← hc62, ← hlen]; exact List.count_le_length
  rw [count_bytes s 62 62 rfl, hc62] at hq62
  have HQ62 := Aside0.mk hq62
  clear hq62
  have hq60 := count_is s 60
  obtain ⟨c60, hc60⟩ : ∃ c, (bytesOf s).count (60 : Int) = c := ⟨_, rfl⟩
  have hk60 : c60 ≤ n := by rw [← hc60, ← hlen]; exact List.count_le_length
  rw [count_bytes s 60 60 rfl, hc60] at hq60
  have HQ60 := Aside0.mk hq60
  clear hq60
  have hq38 := count_is s 38
  obtain ⟨c38, hc38⟩ : ∃ c, (bytesOf s).count (38 : Int) = c := ⟨_, rfl⟩
  have hk38 : c38 ≤ n := by rw [← hc38, ← hlen]; exact List.count_le_length
  rw [count_bytes s 38 38 rfl, hc38] at hq38
  have HQ38 := Aside0.mk hq38
  clear hq38
  have hsum := grown1_count s
  have hany0 := any_count s
  rw [hc34, hc62, hc60, hc38] at hsum hany0
  have HSUM := Aside0.mk hsum
  have HANY := Aside0.mk hany0
  clear hsum hany0 hc34 hc62 hc60 hc38
  obtain ⟨rcs, hr1, hr2⟩ := HR.out
  have r0 : w.cell? ⟨ta, 0, none⟩ = some (.string ⟨#[34]⟩) := (blk_cell hr1 0).trans (hr2 0 (by decide))
  have r1 : w.cell? ⟨ta, 1, none⟩ = some (.string ⟨#[62]⟩) := (blk_cell hr1 1).trans (hr2 1 (by decide))
  have r2 : w.cell? ⟨ta, 2, none⟩ = some (.string ⟨#[60]⟩) := (blk_cell hr1 2).trans (hr2 2 (by decide))
  have r3 : w.cell? ⟨ta, 3, none⟩ = some (.string ⟨#[38]⟩) := (blk_cell hr1 3).trans (hr2 3 (by decide))
  clear hr1 hr2
  go_wp2
  go_loopw [5, 6, 32] (fun z a i wq => ∃ k : Nat, k ≤ 4 ∧ i = .int .i64 k ∧ z = .int .i64 (n + ((([5 * c34, 3 * c62, 3 * c60, 4 * c38] : List Nat).take k).sum : Nat)) ∧ a = .bool ((([c34, c62, c60, c38] : List Nat).take k).any (· != 0)) ∧ Aside0 (Below w.heap.size w wq)) (fun z a i _ => 4 - (intOf i).toNat)
  case atStart => exact ⟨0, by omega, rfl, by simp, rfl, ⟨Below.refl _ _⟩⟩
  case round =>
   obtain ⟨k, hk, rfl, rfl, rfl, HBQ⟩ := hrel
   have hkk : k = 0 ∨ k = 1 ∨ k = 2 ∨ k = 3 ∨ k = 4 := by omega
   rcases hkk with rfl | rfl | rfl | rfl | rfl
   ·
    obtain ⟨Z, hZ⟩ : ∃ Z : Int, ((n : Nat) : Int) + ((([5 * c34, 3 * c62, 3 * c60, 4 * c38] : List Nat).take 0).sum : Nat) = Z := ⟨_, rfl⟩
    have hZ1 : ((n : Nat) : Int) + ((([5 * c34, 3 * c62, 3 * c60, 4 * c38] : List Nat).take 1).sum : Nat) = Z + 5 * c34 := by rw [← hZ]; simp only [List.take_succ_cons, List.take_zero, List.sum_cons, List.sum_nil]; omega
    have hZ0 : 0 ≤ Z ∧ Z ≤ 13 * n := by rw [← hZ]; simp only [List.take_succ_cons, List.take_zero, List.sum_cons, List.sum_nil]; omega
    obtain ⟨A, hA⟩ : ∃ A, ((([c34, c62, c60, c38] : List Nat).take 0).any (· != 0)) = A := ⟨_, rfl⟩
    have hA1 : ((([c34, c62, c60, c38] : List Nat).take 1).any (· != 0)) = (A || c34 != 0) := by rw [← hA]; simp [Bool.or_assoc]
    rw [hZ, hA]
    have HZ1 := Aside0.mk hZ1
    have HA1 := Aside0.mk hA1
    clear hZ hZ1 hA hA1
    have t0 := (HT.out.below HBQ.out).cell (i := 34) (by omega)
    have rr := pw_cell_below HBQ.out r0
    rcases HK.out.at 34 (by omega) with ⟨he, hf⟩ | ⟨b, cap, l, cs', fr, he, hf, hcap, hfr, hblk, hcs⟩
    ·
     cases he
    obtain rfl : l = [38, 113, 117, 111, 116, 59] := by cases he; rfl
    rw [hf] at t0
    have hix : ((⟨#[34]⟩ : ByteArray)[0]).toNat = 34 := rfl
    clear hblk hcs hf
    by_cases hz : c34 = 0
    ·
     subst hz
     go_wp2_with (go_at_call 118; refine (HQ34.out _).mono ?_; rintro e w' ⟨rfl, hw'⟩; rw [hw'])
     exact ⟨⟨1, by omega, by go_num, by rw [HZ1.out]; go_num, by rw [HA1.out]; simp, HBQ⟩, by simp [intOf]⟩
    ·
     go_wp2_with (go_at_call 118; refine (HQ34.out _).mono ?_; rintro e w' ⟨rfl, hw'⟩; rw [hw'])
     go_region
     go_wp2
     exact ⟨⟨1, by omega, by go_num, by rw [HZ1.out]; go_num, by rw [HA1.out]; simp [hz], ⟨below_drew HBQ.out⟩⟩, by simp [intOf]⟩
   ·
    obtain ⟨Z, hZ⟩ : ∃ Z : Int, ((n : Nat) : Int) + ((([5 * c34, 3 * c62, 3 * c60, 4 * c38] : List Nat).take 1).sum : Nat) = Z := ⟨_, rfl⟩
    have hZ1 : ((n : Nat) : Int) + ((([5 * c34, 3 * c62, 3 * c60, 4 * c38] : List Nat).take 2).sum : Nat) = Z + 3 * c62 := by rw [← hZ]; simp only [List.take_succ_cons, List.take_zero, List.sum_cons, List.sum_nil]; omega
    have hZ0 : 0 ≤ Z ∧ Z ≤ 13 * n := by rw [← hZ]; simp only [List.take_succ_cons, List.take_zero, List.sum_cons, List.sum_nil]; omega
    obtain ⟨A, hA⟩ : ∃ A, ((([c34, c62, c60, c38] : List Nat).take 1).any (· != 0)) = A := ⟨_, rfl⟩
    have hA1 : ((([c34, c62, c60, c38] : List Nat).take 2).any (· != 0)) = (A || c62 != 0) := by rw [← hA]; simp [Bool.or_assoc]
    rw [hZ, hA]
    have HZ1 := Aside0.mk hZ1
    have HA1 := Aside0.mk hA1
    clear hZ hZ1 hA hA1
    have t0 := (HT.out.below HBQ.out).cell (i := 62) (by omega)
    have rr := pw_cell_below HBQ.out r1
    rcases HK.out.at 62 (by omega) with ⟨he, hf⟩ | ⟨b, cap, l, cs', fr, he, hf, hcap, hfr, hblk, hcs⟩
    ·
     cases he
    obtain rfl : l = [38, 103, 116, 59] := by cases he; rfl
    rw [hf] at t0
    have hix : ((⟨#[62]⟩ : ByteArray)[0]).toNat = 62 := rfl
    clear hblk hcs hf
    by_cases hz : c62 = 0
    ·
     subst hz
     go_wp2_with (go_at_call 118; refine (HQ62.out _).mono ?_; rintro e w' ⟨rfl, hw'⟩; rw [hw'])
     exact ⟨⟨2, by omega, by go_num, by rw [HZ1.out]; go_num, by rw [HA1.out]; simp, HBQ⟩, by simp [intOf]⟩
    ·
     go_wp2_with (go_at_call 118; refine (HQ62.out _).mono ?_; rintro e w' ⟨rfl, hw'⟩; rw [hw'])
     go_region
     go_wp2
     exact ⟨⟨2, by omega, by go_num, by rw [HZ1.out]; go_num, by rw [HA1.out]; simp [hz], ⟨below_drew HBQ.out⟩⟩, by simp [intOf]⟩
   ·
    obtain ⟨Z, hZ⟩ : ∃ Z : Int, ((n : Nat) : Int) + ((([5 * c34, 3 * c62, 3 * c60, 4 * c38] : List Nat).take 2).sum : Nat) = Z := ⟨_, rfl⟩
    have hZ1 : ((n : Nat) : Int) + ((([5 * c34, 3 * c62, 3 * c60, 4 * c38] : List Nat).take 3).sum : Nat) = Z + 3 * c60 := by rw [← hZ]; simp only [List.take_succ_cons, List.take_zero, List.sum_cons, List.sum_nil]; omega
    have hZ0 : 0 ≤ Z ∧ Z ≤ 13 * n := by rw [← hZ]; simp only [List.take_succ_cons, List.take_zero, List.sum_cons, List.sum_nil]; omega
    obtain ⟨A, hA⟩ : ∃ A, ((([c34, c62, c60, c38] : List Nat).take 2).any (· != 0)) = A := ⟨_, rfl⟩
    have hA1 : ((([c34, c62, c60, c38] : List Nat).take 3).any (· != 0)) = (A || c60 != 0) := by rw [← hA]; simp [Bool.or_assoc]
    rw [hZ, hA]
    have HZ1 := Aside0.mk hZ1
    have HA1 := Aside0.mk hA1
    clear hZ hZ1 hA hA1
    have t0 := (HT.out.below HBQ.out).cell (i := 60) (by omega)
    have rr := pw_cell_below HBQ.out r2
    rcases HK.out.at 60 (by omega) with ⟨he, hf⟩ | ⟨b, cap, l, cs', fr, he, hf, hcap, hfr, hblk, hcs⟩
    ·
     cases he
    obtain rfl : l = [38, 108, 116, 59] := by cases he; rfl
    rw [hf] at t0
    have hix : ((⟨#[60]⟩ : ByteArray)[0]).toNat = 60 := rfl
    clear hblk hcs hf
    by_cases hz : c60 = 0
    ·
     subst hz
     go_wp2_with (go_at_call 118; refine (HQ60.out _).mono ?_; rintro e w' ⟨rfl, hw'⟩; rw [hw'])
     exact ⟨⟨3, by omega, by go_num, by rw [HZ1.out]; go_num, by rw [HA1.out]; simp, HBQ⟩, by simp [intOf]⟩
    ·
     go_wp2_with (go_at_call 118; refine (HQ60.out _).mono ?_; rintro e w' ⟨rfl, hw'⟩; rw [hw'])
     go_region
     go_wp2
     exact ⟨⟨3, by omega, by go_num, by rw [HZ1.out]; go_num, by rw [HA1.out]; simp [hz], ⟨below_drew HBQ.out⟩⟩, by simp [intOf]⟩
   ·
    obtain ⟨Z, hZ⟩ : ∃ Z : Int, ((n : Nat) : Int) + ((([5 * c34, 3 * c62, 3 * c60, 4 * c38] : List Nat).take 3).sum : Nat) = Z := ⟨_, rfl⟩
    have hZ1 : ((n : Nat) : Int) + ((([5 * c34, 3 * c62, 3 * c60, 4 * c38] : List Nat).take 4).sum : Nat) = Z + 4 * c38 := by rw [← hZ]; simp only [List.take_succ_cons, List.take_zero, List.sum_cons, List.sum_nil]; omega
    have hZ0 : 0 ≤ Z ∧ Z ≤ 13 * n := by rw [← hZ]; simp only [List.take_succ_cons, List.take_zero, List.sum_cons, List.sum_nil]; omega
    obtain ⟨A, hA⟩ : ∃ A, ((([c34, c62, c60, c38] : List Nat).take 3).any (· != 0)) = A := ⟨_, rfl⟩
    have hA1 : ((([c34, c62, c60, c38] : List Nat).take 4).any (· != 0)) = (A || c38 != 0) := by rw [← hA]; simp [Bool.or_assoc]
    rw [hZ, hA]
    have HZ1 := Aside0.mk hZ1
    have HA1 := Aside0.mk hA1
    clear hZ hZ1 hA hA1
    have t0 := (HT.out.below HBQ.out).cell (i := 38) (by omega)
    have rr := pw_cell_below HBQ.out r3
    rcases HK.out.at 38 (by omega) with ⟨he, hf⟩ | ⟨b, cap, l, cs', fr, he, hf, hcap, hfr, hblk, hcs⟩
    ·
     cases he
    obtain rfl : l = [38, 97, 109, 112, 59] := by cases he; rfl
    rw [hf] at t0
    have hix : ((⟨#[38]⟩ : ByteArray)[0]).toNat = 38 := rfl
    clear hblk hcs hf
    by_cases hz : c38 = 0
    ·
     subst hz
     go_wp2_with (go_at_call 118; refine (HQ38.out _).mono ?_; rintro e w' ⟨rfl, hw'⟩; rw [hw'])
     exact ⟨⟨4, by omega, by go_num, by rw [HZ1.out]; go_num, by rw [HA1.out]; simp, HBQ⟩, by simp [intOf]⟩
    ·
     go_wp2_with (go_at_call 118; refine (HQ38.out _).mono ?_; rintro e w' ⟨rfl, hw'⟩; rw [hw'])
     go_region
     go_wp2
     exact ⟨⟨4, by omega, by go_num, by rw [HZ1.out]; go_num, by rw [HA1.out]; simp [hz], ⟨below_drew HBQ.out⟩⟩, by simp [intOf]⟩
   ·
    have hs4 : (((([5 * c34, 3 * c62, 3 * c60, 4 * c38] : List Nat).take 4).sum : Nat) : Int) = grown1 (bytesOf s) := by
     rw [HSUM.out]
     simp only [List.take_succ_cons, List.take_zero, List.sum_cons, List.sum_nil]
     omega
    have ha4 : (([c34, c62, c60, c38] : List Nat).take 4).any (· != 0) = (bytesOf s).any isEsc := by
     rw [HANY.out]
     simp [Bool.or_assoc]
    rw [hs4, ha4]
    obtain ⟨j, rfl⟩ : ∃ j, n = j := ⟨n, rfl⟩
    have e1 : (bytesOf s).take n = bytesOf s := List.take_of_length_le (by omega)
    rename World => wq
    have HT := Aside0.mk (HT.out.below HBQ.out)
    have HK := Aside0.mk (HK.out.step (ByKept.below HBQ.out))
    have hg1 := grown1_le (bytesOf s)
    rw [hlen] at hg1
    obtain ⟨L, hL⟩ : ∃ L, (escLs (bytesOf s)).length = L := ⟨_, rfl⟩
    have hG : ((n : Nat) : Int) + grown1 (bytesOf s) = (L : Int) := by rw [grown1, hL, hlen]; omega
    rw [hG]
    have hL0 : n ≤ L ∧ L ≤ 6 * n := by omega
    clear hg1 hG
    cases hany : (bytesOf s).any isEsc
    ·
     go_wp2
     go_ret
     refine ⟨?_, HBQ.out⟩
     rw [escB, no_esc _ hany, str_bytes]
     rfl
    ·
     obtain ⟨i0, hi0, hz0, hs0, hb0⟩ := info_parts infoByte
     have hmk := run_make (P := Tryz.prog) wq 51 5 i0 (.int .u8 0) Tryz.underlying51 hi0 hz0 .i64 .i64 L L (by omega) (by omega) (by rw [hb0]; omega) (by omega)
     rw [hs0, Nat.mul_one, Int.toNat_natCast] at hmk
     obtain ⟨W2, hW2⟩ : ∃ W, wq.alloc (.cells (madeCells (Value.int .u8 0).cells L) 5) = W := ⟨_, rfl⟩
     obtain ⟨N, hN⟩ : ∃ N, wq.heap.size = N := ⟨_, rfl⟩
     have hb2 := below_alloc (Below.refl wq.heap.size wq) (.cells (madeCells (Value.int .u8 0).cells L) 5)
     have hx2 : W2.heap[N]? = some (.cells (madeCells (Value.int .u8 0).cells L) 5 (0, 0)) := by rw [← hW2, ← hN]; exact blk_newr rfl
     rw [hW2] at hmk hb2
     rw [hN] at hmk
     have HB2 : Aside0 (Below wq.heap.size wq W2) := ⟨hb2⟩
     have HX2 : Aside0 (∃ cs : Array Value, W2.heap[N]? = some (.cells cs 5 (0, 0)) ∧ cs.size = L ∧ ∀ m, m < (escLs ((bytesOf s).take 0)).length → cs[m]? = some (.int .u8 ((escLs ((bytesOf s).take 0)).getD m 0))) := ⟨_, hx2, by first | (rw [size_madeCells]; done) | (rw [size_madeCells]; simp), fun m hm => by simp [escLs] at hm⟩
     have HNN : Aside0 (wq.heap.size = N) := ⟨hN⟩
     have h0 : Aside0 ((0 : Int) = (((escLs ((bytesOf s).take 0)).length : Nat) : Int)) := ⟨by simp [escLs]⟩
     go_wp2
     clear hmk hW2 hN hb2 hx2 hs0 hb0 hz0 hi0
     go_loopw [13, 14] (fun z i wr => ∃ k : Nat, k ≤ n ∧ i = .int .i64 k ∧ z = .int .i64 ((escLs ((bytesOf s).take k)).length) ∧ Aside0 (∃ cs : Array Value, wr.heap[N]? = some (.cells cs 5 (0, 0)) ∧ cs.size = L ∧ ∀ m, m < (escLs ((bytesOf s).take k)).length → cs[m]? = some (.int .u8 ((escLs ((bytesOf s).take k)).getD m 0))) ∧ Aside0 (Below wq.heap.size wq wr)) (fun z i _ => n - (intOf i).toNat)
     case atStart => exact ⟨0, by omega, rfl, by rw [← h0.out], HX2, HB2⟩
     case round =>
      obtain ⟨k, hk, rfl, rfl, HX, HB⟩ := hrel
      by_cases hkj : k < n
      ·
       have hbt := bytes_at s k (by omega)
       have hlt : (s[k]'(by omega)).toNat < 256 := UInt8.toNat_lt _
       obtain ⟨o, ho⟩ : ∃ o : Nat, (s[k]'(by omega)).toNat = o := ⟨_, rfl⟩
       rw [ho] at hbt hlt
       have hTr := HT.out.below HB.out
       have htk := take_one hbt
       have hst := escLs_take hbt
       rw [hL] at hst
       obtain ⟨cs, hx, hsz, hcc⟩ := HX.out
       obtain ⟨J, hJ⟩ : ∃ J, (escLs ((bytesOf s).take k)).length = J := ⟨_, rfl⟩
       rw [hJ] at hst hcc
       rw [hJ]
       have t0 := hTr.cell hlt
       have hJL : J < L := by have := escOne_len (o : Int); omega
       have xf := blk_frozen hx J
       have xc := (blk_cell hx J).trans (Array.getElem?_eq_getElem (by omega))
       have hNw := HNN.out
       have hnil := fun (W : World) (a : Option Addr) (l c : Nat) => run_neq_slice_nil (P := Tryz.prog) W 51 5 a l c Tryz.underlying51
       have HXX := Aside0.mk hx
       have HCC := Aside0.mk hcc
       have HNW := Aside0.mk hNw
       clear hx hcc hNw hTr
       rcases HK.out.at o hlt with ⟨he, hf⟩ | ⟨b, cap, l, cs', fr, he, hf, hcap, hfr, hblk, hcs⟩
       ·
        rw [hf] at t0
        go_wp2
        have hoe : escOne (o : Int) = [(o : Int)] := by rw [escOne, Int.toNat_natCast, he]; rfl
        have hlk : (escLs ((bytesOf s).take (k + 1))).length = J + 1 := by rw [htk, escLs_snoc, List.length_append, hJ, hoe]; rfl
        refine ⟨⟨k + 1, by omega, by go_num, by rw [hlk]; go_num, ⟨⟨_, blk_put HXX.out J _ rfl, by rw [Array.size_setIfInBounds]; exact hsz, fun m hm => ?_⟩⟩, ⟨HB.out.setCell (p := ⟨N, J, none⟩) (by have := HNW.out; show _ ≤ N; omega) _⟩⟩, by simp [intOf]; omega⟩
        rw [hlk] at hm
        rw [htk, escLs_snoc, hoe, List.getD_eq_getElem?_getD]
        by_cases hmj : m = J
        ·
         subst hmj
         rw [Array.getElem?_setIfInBounds_self_of_lt (by omega), List.getElem?_append_right (by omega), hJ, Nat.sub_self]
         rfl
        ·
         rw [Array.getElem?_setIfInBounds_ne (fun e => hmj e.symm), List.getElem?_append_left (by omega), ← List.getD_eq_getElem?_getD]
         exact HCC.out m (by omega)
       ·
        rw [hf] at t0
        have HBL := Aside0.mk hblk
        have HCS := Aside0.mk hcs
        have hl6 := escL_len he
        clear hblk hcs
        obtain ⟨m, hm⟩ : ∃ m, l.length = m := ⟨_, rfl⟩
        rw [hm] at t0 hl6 hcap
        go_wp2
        have hoe : escOne (o : Int) = l := by rw [escOne, Int.toNat_natCast, he]; rfl
        rw [hoe, hm] at hst
        have hbr := HB.out.block b (blk_lt HBL.out)
        have hsrc : ∀ (i : Nat) (v : Value), (l.map (fun n => Value.int .u8 n))[i]? = some v → wr.drew.cell? ((⟨b, 0, none⟩ : Addr).add i) = some v := by
         intro i v hv
         rw [List.getElem?_map, Option.map_eq_some_iff] at hv
         obtain ⟨x, hx, rfl⟩ := hv
         rw [add_plain, World.cell?_drew, cell_of_row wr b i cs' 5 fr (hbr.trans HBL.out), HCS.out i (List.getElem?_eq_some_iff.1 hx).1, List.getD_eq_getElem?_getD, hx]
         rfl
        have hcp := run_copy_row (P := Tryz.prog) wr.drew 51 51 3 5 N J (L - J) (L - J) ⟨b, 0, none⟩ m cap cs 5 (l.map (fun n => Value.int .u8 n)) Tryz.underlying51 (by kernel_rfl) HXX.out (by rw [List.length_map, hm]; exact (Nat.min_eq_left (by omega)).symm) hsrc (by rw [List.length_map, hm]; omega) (by intro v hv; obtain ⟨n, _, rfl⟩ := List.mem_map.1 hv; rfl)
        have hHSRC := Aside0.mk hsrc
        clear hsrc
        go_region
        go_wp2
        have hlk : (escLs ((bytesOf s).take (k + 1))).length = J + m := by rw [htk, escLs_snoc, List.length_append, hJ, hoe, hm]
        have hcl : cs.toList.length = L := by rw [Array.length_toList]; exact hsz
        refine ⟨⟨k + 1, by omega, by go_num, by rw [hlk]; go_num, ⟨⟨_, setRow_heap _ _ _ _ _ _ HXX.out, ?_, fun i hi => ?_⟩⟩, ⟨below_setRow (below_drew HB.out) (by have := HNW.out; omega) _⟩⟩, by simp [intOf]; omega⟩
        ·
         rw [List.size_toArray, List.length_append, List.length_append, List.length_take, List.length_drop, List.length_map, hcl, hm]
         omega
        ·
         rw [hlk] at hi
         rw [htk, escLs_snoc, hoe, List.getElem?_toArray, List.getD_eq_getElem?_getD]
         by_cases hij : i < J
         ·
          rw [List.getElem?_append_left (by rw [List.length_take, hcl]; omega), List.getElem?_append_left (by omega), List.getElem?_take, if_pos hij, ← List.getD_eq_getElem?_getD, Array.getElem?_toList]
          exact HCC.out i hij
         ·
          have e3 : (escLs ((bytesOf s).take k) ++ l)[i]? = l[i - J]? := by rw [List.getElem?_append_right (by omega), hJ]
          rw [e3, List.getElem?_append_right (by rw [List.length_take, hcl]; omega), List.length_take, hcl, Nat.min_eq_left (by omega), List.getElem?_append_left (by rw [List.length_map]; omega), List.getElem?_map, List.getElem?_eq_getElem (show i - J < l.length by omega)]
          rfl
      ·
       obtain rfl : k = n := by omega
       obtain ⟨cs, hx, hsz, hcc⟩ := HX.out
       rw [e1] at hcc
       have hcv : (convert 51 9 (.slice (some ⟨N, 0, none⟩) L L)).run Tryz.prog wr = .ok (.string (escB s)) wr := by
        have hr : ReadsInt wr .u8 (some ⟨N, 0, none⟩) L (escLs (bytesOf s)) := ⟨hL, by omega, fun _ => ⟨_, rfl, fun i hi => by
         rw [add_plain]
         exact (blk_cell hx i).trans (hcc i (by omega))⟩⟩
        exact Kd.C_string Tryz.underlying51 Tryz.underlying5 Tryz.underlying9 (Kd.C_of_reads hr)
       clear hx hcc
       go_wp2
       go_ret
       exact ⟨rfl, HBQ.out.trans (HB.out.mono HBQ.out.size)⟩
end Go.Proofs.YtloocmeckpoflaaGreat.D
