/- What the print's words and the walks are, as far as this claim names them. -/
import Derived.Test.YtgmkgobapeencaaYWalRef
import Derived.Test.YtgmkgobapeencaaYS31
import Derived.Test.YtgmkgobapeencaaYS2
import Derived.Test.YtgmkgobapeencaaYAid3
import Derived.Test.YtgmkgobapeencaaYS15
import Derived.Test.YtgmkgobapeencaaYS16
import Derived.Test.YtgmkgobapeencaaYS17
import Derived.Test.YtgmkgobapeencaaYS27
set_option linter.unusedVariables false
set_option linter.unusedSimpArgs false
namespace Go.Proofs.Ytgmkgobapeencaa.WalRec
open Go.RowKit Go.Proofs.Ytgmkgobapeencaa.S Go.Proofs.YtgmkgobapeencaaW.PrintWords Go.Proofs.YtgmkgobapeencaaW.PrintLast RefSeal RefPut WalMath WalEv WalLog WalMore WalRef
def recS : List (List Int) → List (List Int) → Int → List (List Int) × Int
 | [], acc, nx => (acc, nx)
 | s :: ss, acc, nx =>
  if (wscan (s.take 480) nx).2 = 0 ∨ 1099511627776 - nx < ((wscan (s.take 480) nx).1.length : Int) then (acc, nx)
  else if ((s.take 480).drop (wscan (s.take 480) nx).2).any (fun x => x != 0) then (acc ++ [(s.take 480).take (wscan (s.take 480) nx).2], nx + ((wscan (s.take 480) nx).1.length : Int))
  else recS ss (acc ++ [(s.take 480).take (wscan (s.take 480) nx).2]) (nx + ((wscan (s.take 480) nx).1.length : Int))
theorem scan_le {s : List Int} (ho : octs s) (hl : s.length ≤ 1099511627776) {due : Int} (h0 : 0 ≤ due) (h1 : due ≤ 2199023255552) : (wscan s due).2 ≤ s.length := by
 obtain ⟨ds, T, hs, hds, hoT, hr, hw⟩ := wscan_form (s.length + 1) s due ho (by omega) h0 (by omega)
 unfold wscan
 rw [hw]
 dsimp only
 have := congrArg List.length hs
 rw [List.length_append] at this
 omega
theorem rec_l0 (l : List (List Int)) (hl : ∀ s ∈ l, octs s) (hn : l.length ≤ 64) : ∀ (rest pre acc : List (List Int)) (nx : Int), l = pre ++ rest → acc.length ≤ pre.length → 1 ≤ nx → nx ≤ 1099511627776 →
  Ev (fun k => wal_Recover.l0 k l (l.length : Int) (pre.length : Int) acc nx) ((recS rest acc nx).1, (recS rest acc nx).2, 0)
 | [], pre, acc, nx, h, ha, h0, h1 => by
  refine Ev.step (fun k => rfl) ?_
  have e : l = pre := by simpa using h
  simp only [wal_Recover.l0, if_neg (show ¬ (pre.length : Int) < (l.length : Int) by rw [e]; omega), recS]
  exact Ev.now _
 | s :: ss, pre, acc, nx, h, ha, h0, h1 => by
  refine Ev.step (fun k => rfl) ?_
  have hlen : l.length = pre.length + 1 + ss.length := by rw [h]; simp; omega
  have hos := hl s (by rw [h]; simp)
  have hmn : mn (s.length : Int) 480 = ((min s.length 480 : Nat) : Int) := by unfold mn; split <;> omega
  have htk : s.take (min s.length 480) = s.take 480 := by
   by_cases hs : s.length ≤ 480
   ·
    rw [Nat.min_eq_left hs, List.take_of_length_le (Nat.le_refl _), List.take_of_length_le hs]
   ·
    rw [Nat.min_eq_right (by omega)]
  have hm0 : (0 : Int) ≤ ((min s.length 480 : Nat) : Int) := by omega
  have hm1 : ((min s.length 480 : Nat) : Int) ≤ (s.length : Int) := by omega
  simp only [wal_Recover.l0, if_pos (show (pre.length : Int) < (l.length : Int) by omega), if_pos (show (0 : Int) ≤ (pre.length : Int) by omega), rd_L1_at h, hmn, if_pos hm0, if_pos hm1, Int.toNat_natCast, htk, Option.bind_some]
  obtain ⟨t, ht⟩ : ∃ t, s.take 480 = t := ⟨_, rfl⟩
  have hot : octs t := by rw [← ht]; exact octs_take hos 480
  have htl : t.length ≤ 480 := by rw [← ht]; simp; omega
  rw [recS, ht]
  have hsc := scan_is hot (show t.length ≤ 1099511627776 by omega) (show 0 ≤ nx by omega) (show nx ≤ 2199023255552 by omega)
  have hfew := scan_few hot (show t.length ≤ 1099511627776 by omega) (show 0 ≤ nx by omega) (show nx ≤ 2199023255552 by omega) htl
  have hle := scan_le hot (show t.length ≤ 1099511627776 by omega) (show 0 ≤ nx by omega) (show nx ≤ 2199023255552 by omega)
  refine Ev.bind hsc ?_
  obtain ⟨R, hR⟩ : ∃ R, wscan t nx = R := ⟨_, rfl⟩
  rw [hR] at hfew hle ⊢
  obtain ⟨rs, g⟩ := R
  dsimp only at hfew hle ⊢
  simp only [List.length_map]
  have stop : Ev (fun k => wal_Recover.j2 k t (rs.map rowP) (g : Int) l (l.length : Int) (pre.length : Int) true acc nx) (acc, nx, 0) := by
   refine Ev.step (fun k => rfl) ?_
   simp only [wal_Recover.j2, if_true]
   exact Ev.now _
  by_cases hg : g = 0
  ·
   simp only [if_pos (show (g : Int) = 0 by omega), if_pos (show g = 0 ∨ 1099511627776 - nx < (rs.length : Int) from .inl hg)]
   exact stop
  ·
   have w1 : wrap64 (1099511627776 - nx) = 1099511627776 - nx := wI (by omega) (by omega)
   simp only [if_neg (show ¬ (g : Int) = 0 by omega), w1]
   by_cases hc : 1099511627776 - nx < (rs.length : Int)
   ·
    simp only [if_pos (show g = 0 ∨ 1099511627776 - nx < (rs.length : Int) from .inr hc)]
    rw [decide_eq_true (show (rs.length : Int) > 1099511627776 - nx from hc)]
    exact stop
   ·
    simp only [if_neg (show ¬ (g = 0 ∨ 1099511627776 - nx < (rs.length : Int)) by omega)]
    rw [decide_eq_false (show ¬ (rs.length : Int) > 1099511627776 - nx from hc)]
    refine Ev.step (fun k => rfl) ?_
    have c1 : (t.take g).length < 140737488355328 := by simp; omega
    have c2 : acc.length < 5864062014805 := by omega
    have c3 : (t.drop g).length ≤ 1099511627776 := by simp; omega
    have hcf : slices_ContainsFunc_byte_byte.f (t.drop g) = some ((t.drop g).any fun x => x != 0) := by unfold slices_ContainsFunc_byte_byte.f; rw [if_pos c3]
    have w2 : wrap64 (nx + (((rs.map rowP).length : Nat) : Int)) = nx + (rs.length : Int) := by rw [List.length_map]; exact wI (by omega) (by omega)
    have w3 : wrap64 ((pre.length : Int) + 1) = (((pre ++ [s]).length : Nat) : Int) := by rw [List.length_append]; exact wI (by omega) (by omega)
    have ih := rec_l0 l hl hn ss (pre ++ [s]) (acc ++ [t.take g]) (nx + (rs.length : Int)) (by rw [h]; simp) (by simp; omega) (by omega) (by omega)
    simp only [wal_Recover.j2, Bool.false_eq_true, if_false, if_pos (show (0 : Int) ≤ (g : Int) by omega), if_pos (show (g : Int) ≤ (t.length : Int) by omega), Int.toNat_natCast, clone_is c1, Option.bind_some, if_pos c2, hcf, w2, w3]
    by_cases hz : ((t.drop g).any fun x => x != 0) = true
    ·
     simp only [if_pos hz]
     exact Ev.now _
    ·
     simp only [if_neg hz]
     exact ih
theorem rec_is {l : List (List Int)} (hl : ∀ s ∈ l, octs s) (hn : l.length ≤ 64) {nx : Int} (h0 : 1 ≤ nx) (h1 : nx ≤ 1099511627776) : Ev (fun k => wal_Recover.f k l nx) ((recS l [] nx).1, (recS l [] nx).2, 0) := by
 unfold wal_Recover.f
 simp only [if_neg (show ¬ nx < 1 by omega), decide_eq_false (show ¬ nx > 1099511627776 by omega)]
 refine Ev.step (fun k => rfl) ?_
 simp only [wal_Recover.j0, Bool.false_eq_true, if_false, if_neg (show ¬ (l.length : Int) > 64 by omega)]
 exact rec_l0 l hl hn l [] [] nx rfl (by simp) h0 h1
def Pad : List (List Int) → List (List Int) → Prop
 | [], [] => True
 | s :: ss, t :: ts => (∃ z, t = s ++ List.replicate z 0 ∧ t.length ≤ 480) ∧ Pad ss ts
 | _, _ => False
theorem zeros_no (z : Nat) (n : Int) : ¬ isRec (List.replicate z (0 : Int)) n := by
 rintro ⟨h, _⟩
 unfold getS at h
 have hr : rd (List.replicate z (0 : Int)) 0 = 0 := by
  unfold rd
  rw [List.getD_eq_getElem?_getD, List.getElem?_replicate]
  split <;> rfl
 rw [hr] at h
 split at h
 ·
  cases h
 ·
  rw [if_pos rfl] at h
  cases h
theorem rec_pad : ∀ (segs segs' acc : List (List Int)) (due next : Int) (rs : List (Int × List Int)), Okt segs → Pad segs segs' → 0 ≤ due → next ≤ 1099511627776 → walkS segs due = some (rs, next) → recS segs' acc due = (acc ++ segs, next)
 | [], [], acc, due, next, rs, hok, hp, h0, h1, hw => by
  injection hw with hw
  injection hw with _ hw
  rw [recS, hw, List.append_nil]
 | s :: ss, t :: ts, acc, due, next, rs, hok, hp, h0, h1, hw => by
  obtain ⟨⟨z, ht, htl⟩, hp'⟩ := hp
  have hm := walk_mono _ _ _ _ hw
  rw [walkS] at hw
  split at hw
  ·
   cases hw
  ·
   rename_i hb
   obtain ⟨ds, hs, hne, hds, hd0, hl, hws⟩ := seg_form (hok s (by simp)).1 h0 (show due ≤ 2199023255552 by omega) hb
   obtain ⟨q, hq, he⟩ := Option.map_eq_some_iff.1 hw
   obtain ⟨q1, q2⟩ := q
   injection he with e1 e2
   dsimp only at e1 e2
   subst e2
   rw [hws] at hq
   dsimp only at hq
   rw [rowsR_length] at hq
   have hmq := walk_mono _ _ _ _ hq
   have htk : t.take 480 = t := List.take_of_length_le htl
   have hfl := flatR_length due ds
   have hp0 : 0 < ds.length := List.length_pos_iff.2 hne
   have hsl : s.length = (flatR due ds).length := by rw [← hs]
   have hw2 : wscan t due = (rowsR due ds, s.length) := by
    have := wscan_flat ds due (List.replicate z 0) (t.length + 1) (fun d hd => (hds d hd).1) h0 (by omega) (zeros_no z _) (by rw [ht, List.length_append]; omega)
    unfold wscan
    rw [hsl]
    rw [← this, ← hs, ← ht]
   have hdr : t.drop s.length = List.replicate z 0 := by rw [ht, List.drop_left]
   have htk2 : t.take s.length = s := by rw [ht, List.take_left]
   have hany : ((List.replicate z (0 : Int)).any fun x => x != 0) = false := by
    rw [List.any_eq_false]
    intro x hx
    rw [List.eq_of_mem_replicate hx]
    decide
   rw [recS, htk, hw2]
   dsimp only
   rw [rowsR_length, if_neg (by omega), hdr, hany, if_neg (by decide), htk2]
   rw [rec_pad ss ts (acc ++ [s]) (due + ds.length) q2 q1 (fun u hu => hok u (by simp [hu])) hp' (by omega) h1 hq, List.append_assoc]
   rfl
 | [], _ :: _, _, _, _, _, _, hp, _, _, _ => hp.elim
 | _ :: _, [], _, _, _, _, _, hp, _, _, _ => hp.elim
end Go.Proofs.Ytgmkgobapeencaa.WalRec
namespace Go.Proofs.Ytgmkgobapeencaa.S
open Go.Proofs.YtgmkgobapeencaaW.PrintWords.Kd renaming N_mono → a', N_far → b'
open Go.Proofs.YtgmkgobapeencaaW.PrintWords.Aside0 renaming mk → c'
open Go.RowKit Go.Proofs.YtgmkgobapeencaaW.PrintWords Go.Proofs.YtgmkgobapeencaaW.PrintLast Go.Proofs.YtgmkgobapeencaaW.PrintMore
attribute [local go_sem] max2_int min2_int max_two min_two max_three min_three max_four min_four
mutual
def fanlightlaw06_WalKeeps.j0 : Nat → Int → List (S57) → Bool → List (List Int) → Int → Option (Bool)
 | 0, _, _, _, _, _ => none
 | k + 1, x2, x8, x33, x304000, x304001 => if x33 = true then (some false) else ((wal_Records.f k x304000 x304001).bind fun bt305 => ((fanlightlaw06_num.f bt305.2).bind fun t309 => (if t309 = 0 then ((fanlightlaw06_same.f k bt305.1 x8).bind fun t310 => (fanlightlaw06_WalKeeps.j1 k x2 x8 (!t310) x304000 x304001)) else (fanlightlaw06_WalKeeps.j1 k x2 x8 true x304000 x304001))))
def fanlightlaw06_WalKeeps.j1 : Nat → Int → List (S57) → Bool → List (List Int) → Int → Option (Bool)
 | 0, _, _, _, _, _ => none
 | k + 1, x2, x8, x47, x304000, x304001 => if x47 = true then (some false) else (fanlightlaw06_WalKeeps.l0 k x2 x8 (wrap64 (x304001 - (x8.length : Int))) ([] : List (List Int)) 0 x304000 x304001)
def fanlightlaw06_WalKeeps.l0 : Nat → Int → List (S57) → Int → List (List Int) → Int → List (List Int) → Int → Option (Bool)
 | 0, _, _, _, _, _, _, _ => none
 | k + 1, x2, x8, x12, x13, x14, x304000, x304001 => if x14 < (x304000.length : Int) then (if 0 ≤ x14 then ((fanlightplain_CopyBytes.f (rd_L1 x304000 x14)).bind fun t312 => (fanlightlaw06_WalKeeps.l1 k x2 x8 x12 x13 x14 t312 0 x304000 x304001)) else (none)) else ((wal_Recover.f k x13 x12).bind fun bt324 => ((wal_Records.f k bt324.1 bt324.2.1).bind fun bt330 => ((fanlightlaw06_num.f bt324.2.2).bind fun t334 => ((fanlightlaw06_num.f bt330.2).bind fun t335 => (if (wrap64 (t334 + t335)) = 0 then (if bt324.2.1 = x304001 then ((fanlightlaw06_same.f k bt330.1 x8).bind fun t336 => (some t336)) else (some false)) else (some false))))))
def fanlightlaw06_WalKeeps.l1 : Nat → Int → List (S57) → Int → List (List Int) → Int → List Int → Int → List (List Int) → Int → Option (Bool)
 | 0, _, _, _, _, _, _, _, _, _ => none
 | k + 1, x2, x8, x12, x13, x14, x15, x16, x304000, x304001 => if x16 < (Int.tmod (wrap64 ((Int.tmod x2 9) + 9)) 9) then (if (x15.length : Int) < 480 then (if x15.length < 140737488355328 then (fanlightlaw06_WalKeeps.l1 k x2 x8 x12 x13 x14 (x15 ++ [0]) (wrap64 (x16 + 1)) x304000 x304001) else (none)) else (if x13.length < 5864062014805 then (fanlightlaw06_WalKeeps.l0 k x2 x8 x12 (x13 ++ [x15]) (wrap64 (x14 + 1)) x304000 x304001) else (none))) else (if x13.length < 5864062014805 then (fanlightlaw06_WalKeeps.l0 k x2 x8 x12 (x13 ++ [x15]) (wrap64 (x14 + 1)) x304000 x304001) else (none))
end
def fanlightlaw06_WalKeeps.f (k : Nat) (a0 : Int) (l1 : List (List Int)) (a2 : Int) : Option (Bool) := (fanlightlaw06_filled.f k a0 l1).bind fun bt295 => ((fanlightlaw06_alive.f k).bind fun t304 => (if t304 = true then (fanlightlaw06_WalKeeps.j0 k a2 bt295.2.2.1 (!bt295.2.2.2) bt295.1 bt295.2.1) else (fanlightlaw06_WalKeeps.j0 k a2 bt295.2.2.1 true bt295.1 bt295.2.1)))
theorem fanlightlaw06_WalKeeps.mono_l : ∀ k, (∀ y0 y1 y2 y3 y4, LeO (fanlightlaw06_WalKeeps.j0 k y0 y1 y2 y3 y4) (fanlightlaw06_WalKeeps.j0 (k + 1) y0 y1 y2 y3 y4)) ∧ (∀ y0 y1 y2 y3 y4, LeO (fanlightlaw06_WalKeeps.j1 k y0 y1 y2 y3 y4) (fanlightlaw06_WalKeeps.j1 (k + 1) y0 y1 y2 y3 y4)) ∧ (∀ y0 y1 y2 y3 y4 y5 y6, LeO (fanlightlaw06_WalKeeps.l0 k y0 y1 y2 y3 y4 y5 y6) (fanlightlaw06_WalKeeps.l0 (k + 1) y0 y1 y2 y3 y4 y5 y6)) ∧ (∀ y0 y1 y2 y3 y4 y5 y6 y7 y8, LeO (fanlightlaw06_WalKeeps.l1 k y0 y1 y2 y3 y4 y5 y6 y7 y8) (fanlightlaw06_WalKeeps.l1 (k + 1) y0 y1 y2 y3 y4 y5 y6 y7 y8))
 | 0 => ⟨fun _ _ _ _ _ r h => by simp [fanlightlaw06_WalKeeps.j0] at h, fun _ _ _ _ _ r h => by simp [fanlightlaw06_WalKeeps.j1] at h, fun _ _ _ _ _ _ _ r h => by simp [fanlightlaw06_WalKeeps.l0] at h, fun _ _ _ _ _ _ _ _ _ r h => by simp [fanlightlaw06_WalKeeps.l1] at h⟩
 | k + 1 => by
  obtain ⟨ih0, ih1, ih2, ih3⟩ := fanlightlaw06_WalKeeps.mono_l k
  refine ⟨?_, ?_, ?_, ?_⟩
  ·
   intro y0 y1 y2 y3 y4
   unfold fanlightlaw06_WalKeeps.j0
   repeat' first
   | (with_reducible exact ih0 _ _ _ _ _)
   | (with_reducible exact ih1 _ _ _ _ _)
   | (with_reducible exact ih2 _ _ _ _ _ _ _)
   | (with_reducible exact ih3 _ _ _ _ _ _ _ _ _)
   | (with_reducible exact fanlightlaw06_alive.mono _)
   | (with_reducible exact fanlightlaw06_filled.mono _ _ _)
   | (with_reducible exact fanlightlaw06_same.mono _ _ _)
   | (with_reducible exact wal_Records.mono _ _ _)
   | (with_reducible exact wal_Recover.mono _ _ _)
   | with_reducible first | exact LeO.refl _ | exact LeO.none _ | refine LeO.ite ?_ ?_ | refine LeO.bind ?_ fun _ => ?_
  ·
   intro y0 y1 y2 y3 y4
   unfold fanlightlaw06_WalKeeps.j1
   repeat' first
   | (with_reducible exact ih0 _ _ _ _ _)
   | (with_reducible exact ih1 _ _ _ _ _)
   | (with_reducible exact ih2 _ _ _ _ _ _ _)
   | (with_reducible exact ih3 _ _ _ _ _ _ _ _ _)
   | (with_reducible exact fanlightlaw06_alive.mono _)
   | (with_reducible exact fanlightlaw06_filled.mono _ _ _)
   | (with_reducible exact fanlightlaw06_same.mono _ _ _)
   | (with_reducible exact wal_Records.mono _ _ _)
   | (with_reducible exact wal_Recover.mono _ _ _)
   | with_reducible first | exact LeO.refl _ | exact LeO.none _ | refine LeO.ite ?_ ?_ | refine LeO.bind ?_ fun _ => ?_
  ·
   intro y0 y1 y2 y3 y4 y5 y6
   unfold fanlightlaw06_WalKeeps.l0
   repeat' first
   | (with_reducible exact ih0 _ _ _ _ _)
   | (with_reducible exact ih1 _ _ _ _ _)
   | (with_reducible exact ih2 _ _ _ _ _ _ _)
   | (with_reducible exact ih3 _ _ _ _ _ _ _ _ _)
   | (with_reducible exact fanlightlaw06_alive.mono _)
   | (with_reducible exact fanlightlaw06_filled.mono _ _ _)
   | (with_reducible exact fanlightlaw06_same.mono _ _ _)
   | (with_reducible exact wal_Records.mono _ _ _)
   | (with_reducible exact wal_Recover.mono _ _ _)
   | with_reducible first | exact LeO.refl _ | exact LeO.none _ | refine LeO.ite ?_ ?_ | refine LeO.bind ?_ fun _ => ?_
  ·
   intro y0 y1 y2 y3 y4 y5 y6 y7 y8
   unfold fanlightlaw06_WalKeeps.l1
   repeat' first
   | (with_reducible exact ih0 _ _ _ _ _)
   | (with_reducible exact ih1 _ _ _ _ _)
   | (with_reducible exact ih2 _ _ _ _ _ _ _)
   | (with_reducible exact ih3 _ _ _ _ _ _ _ _ _)
   | (with_reducible exact fanlightlaw06_alive.mono _)
   | (with_reducible exact fanlightlaw06_filled.mono _ _ _)
   | (with_reducible exact fanlightlaw06_same.mono _ _ _)
   | (with_reducible exact wal_Records.mono _ _ _)
   | (with_reducible exact wal_Recover.mono _ _ _)
   | with_reducible first | exact LeO.refl _ | exact LeO.none _ | refine LeO.ite ?_ ?_ | refine LeO.bind ?_ fun _ => ?_
theorem fanlightlaw06_WalKeeps.mono : ∀ a0 a1 a2 k, LeO (fanlightlaw06_WalKeeps.f k a0 a1 a2) (fanlightlaw06_WalKeeps.f (k + 1) a0 a1 a2) := by
 intro a0 a1 a2 k
 obtain ⟨ih0, ih1, ih2, ih3⟩ := fanlightlaw06_WalKeeps.mono_l k
 unfold fanlightlaw06_WalKeeps.f
 repeat' first
   | (with_reducible exact ih0 _ _ _ _ _)
   | (with_reducible exact ih1 _ _ _ _ _)
   | (with_reducible exact ih2 _ _ _ _ _ _ _)
   | (with_reducible exact ih3 _ _ _ _ _ _ _ _ _)
   | (with_reducible exact fanlightlaw06_alive.mono _)
   | (with_reducible exact fanlightlaw06_filled.mono _ _ _)
   | (with_reducible exact fanlightlaw06_same.mono _ _ _)
   | (with_reducible exact wal_Records.mono _ _ _)
   | (with_reducible exact wal_Recover.mono _ _ _)
   | with_reducible first | exact LeO.refl _ | exact LeO.none _ | refine LeO.ite ?_ ?_ | refine LeO.bind ?_ fun _ => ?_
set_option maxHeartbeats 8000000 in
set_option maxRecDepth 100000 in
theorem fanlightlaw06_WalKeeps.calls (k : Nat) (a0 : Int) (A1 : Option Addr) (c1 : Nat) (l1 : List (List Int)) (a2 : Int) (r : Bool) (w : World) (hr1 : Kd.C (Kd.slice 5 (Kd.int .u8)) w A1 l1.length l1) (hc1 : l1.length ≤ c1) (h : fanlightlaw06_WalKeeps.f k a0 l1 a2 = some r) (hT : r = true) (hA : ∀ (k : Nat) (r : Bool), fanlightlaw06_alive.f k = some r → r = true) :
  Calls Try.prog 6 #[.int .i64 a0, .slice A1 l1.length c1, .int .i64 a2] w fun e w' => e = .returned (.bool r) ∧ Below w.heap.size w w' := by
 have hu27 := Try.underlying27
 have HR1 := c' hr1
 have HC1 := c' hc1
 clear hr1 hc1
 have HB := c' (Below.refl w.heap.size w)
 have H : ((fanlightlaw06_filled.f k a0 l1).bind fun bt295 => ((fanlightlaw06_alive.f k).bind fun t304 => (if t304 = true then (fanlightlaw06_WalKeeps.j0 k a2 bt295.2.2.1 (!bt295.2.2.2) bt295.1 bt295.2.1) else (fanlightlaw06_WalKeeps.j0 k a2 bt295.2.2.1 true bt295.1 bt295.2.1)))) = some r := h
 clear h
 replace H := Option.bind_eq_some_iff.mp H
 obtain ⟨⟨t295, t298, t299, t302⟩, A40, H⟩ := H
 (try dsimp only at H)
 have A4 := c' A40
 clear A40
 have HC5 := c' H
 clear H
 go_enter Try.func6, Try.ntmps6
 go_upto_region 2 with (first | ((with_reducible refine gate_callee (f := 24) rfl ?_); refine gL 24 Try.func24 #[.int .i64 a0, .slice A1 l1.length c1] (h := ?_); (with_reducible refine (fanlightlaw06_filled.calls k a0 (fun k_ => k_ < w.heap.size) _ _ l1 t295 t298 t299 t302 _ ?side1 A4.out).mono ?_); (case side1 => exact Kd.V_mk HC1.out (Kd.F_below (Kd.C_F (Kd.heap_slice _ (Kd.heap_int .u8)) HR1.out) (eH HB))); rintro e w6 ⟨v296, v300, rfl, ho0, ho1, hb⟩; refine ⟨_, rfl, ?_⟩; have n0_ := c' (Kd.N_lower (a' (ok' := fun k_ => some k_ ≠ (v300 : Value).ownBlock) ho0 (fun k_ hk_ => hk_.2)) (below_size (eH HB))); have n1_ := c' (Kd.N_lower (a' (ok' := fun k_ => some k_ ≠ (v296 : Value).ownBlock) ho1 (fun k_ hk_ => hk_.2)) (below_size (eH HB))); have n2_ := c' (below_step (eH HB) hb); clear HB; have HO297 := n0_; have HO301 := n1_; have HB := n2_; clear n0_ n1_ n2_; (try clear hb); (try clear hb2); (try clear hk); (try clear hi); (try clear ho0); (try clear ho1)) | ((with_reducible refine gate_dst (N := 7) rfl ?_); (try (refine gate_guard (by rfl) ?_; dsimp only)); refine box_event ?hg (N := 7) ?hd (cs := #[.slice none 0 0, .int .i64 0]) (t := 27) ?hr ?_; (case hd => rfl); (case hg => rfl); (case hr => go_simp <;> rfl); intro gb303 hg w7 hbox hb; have n0_ := c' (Kd.N_below (Kd.N_elderB (Kd.eN HO297) gb303 (Nat.le_of_eq hg.symm)) hb); have n1_ := c' (Kd.N_below (Kd.N_elderB (Kd.eN HO301) gb303 (Nat.le_of_eq hg.symm)) hb); have n2_ := c' (below_step (eH HB) hb); have n3_ := c' (hbox); have n4_ := c' ((by rw [hg]; exact (below_size (eH HB)) : w.heap.size ≤ gb303)); have n5_ := c' ((by rw [hg]; exact (below_size (eH HB)) : w.heap.size ≤ gb303)); clear HO297; clear HO301; clear HB; have HO297 := n0_; have HO301 := n1_; have HB := n2_; have BK303 := n3_; have GW303 := n4_; have GE303 := n5_; clear n0_ n1_ n2_ n3_ n4_ n5_; clear hb hbox hg; obtain ⟨Ao8, co8, eo8⟩ := Kd.N_slice HO297.out; subst eo8; have hcz9_0 := bC BK303 0 (.slice none 0 0); have hcz9_1 := bC BK303 1 (.int .i64 0); have hfz9_0 := blk_frozen BK303.out 0; have hfz9_1 := blk_frozen BK303.out 1))
 (try simp only [Act.put, List.setIfInBounds_toArray, List.set_cons_zero, List.set_cons_succ])
 go_cut [33] (fun v33 wc => ∃ (kq : Nat) (x33_4 : Bool), v33 = .bool x33_4 ∧ Aside0 (fanlightlaw06_WalKeeps.j0 kq a2 t299 x33_4 t295 t298 = some r) ∧ Aside0 (kq ≤ k) ∧ Aside0 (Kd.N k57 57 wc w.heap.size (fun k_ => some k_ ≠ ((.slice Ao8 t295.length co8) : Value).ownBlock ∧ k_ ≠ gb303) v300 t299) ∧ Aside0 (Kd.N (Kd.slice 5 (Kd.int .u8)) 25 wc w.heap.size (fun k_ => some k_ ≠ (v300 : Value).ownBlock ∧ k_ ≠ gb303) (.slice Ao8 t295.length co8) t295) ∧ Aside0 (wc.heap[gb303]? = some (.cells #[(.slice Ao8 t295.length co8), .int .i64 t298] 27 (0, 0))) ∧ Aside0 (Below w.heap.size w wc))
 case first =>
  have H := HC5.out
  clear HC5
  replace H := Option.bind_eq_some_iff.mp H
  obtain ⟨t304, A100, H⟩ := H
  (try dsimp only at H)
  have A10 := c' A100
  clear A100
  by_cases c11 : t304 = true
  ·
   subst c11
   have H1 : (fanlightlaw06_WalKeeps.j0 k a2 t299 (!t302) t295 t298) = some r := by rw [if_pos rfl] at H; exact H
   clear H
   have H := H1
   clear H1
   have H' := c' H
   clear H
   go_wp2_with (first | ((with_reducible refine gate_callee (f := 8) rfl ?_); refine gL 28 Try.func8 #[] (h := ?_); (with_reducible refine (fanlightlaw06_alive.calls k  true _ A10.out (hA _ _ A10.out)).mono ?_); rintro e w12 ⟨rfl, hb⟩; refine ⟨_, rfl, ?_⟩; have n0_ := c' (Kd.N_below (Kd.kN (a' (b' (p := ⟨gb303, 1, none⟩) (b' (p := ⟨gb303, 0, none⟩) (a' HO297.out (fun k_ hk => (⟨hk, hk.2⟩ : _ ∧ k_ ≠ gb303))) (fun _ hk => hk.2) (.slice Ao8 t295.length co8)) (fun _ hk => hk.2) (.int .i64 t298)) (fun _ h_ => h_.1))) hb); have n1_ := c' (Kd.N_below (Kd.kN (a' (b' (p := ⟨gb303, 1, none⟩) (b' (p := ⟨gb303, 0, none⟩) (a' HO301.out (fun k_ hk => (⟨hk, hk.2⟩ : _ ∧ k_ ≠ gb303))) (fun _ hk => hk.2) (.slice Ao8 t295.length co8)) (fun _ hk => hk.2) (.int .i64 t298)) (fun _ h_ => h_.1))) hb); have n2_ := c' (blk_below (g := gb303) (o := .cells #[.slice Ao8 t295.length co8, .int .i64 t298] 27 (0, 0)) (by refine eK ?_; refine blk_put (cs := #[.slice Ao8 t295.length co8, .int .i64 0]) ?_ 1 _ rfl; refine eK ?_; refine blk_put (cs := #[.slice none 0 0, .int .i64 0]) ?_ 0 _ rfl; refine eK ?_; exact BK303.out) hb); have n3_ := c' (below_step (eH HB) hb); clear HO297; clear HO301; clear BK303; clear HB; have HO297 := n0_; have HO301 := n1_; have BK303 := n2_; have HB := n3_; clear n0_ n1_ n2_ n3_; (try clear hb); (try clear hb2); (try clear hk); (try clear hi)))
   go_meet
   case rel => exact ⟨_, (!t302), rS, H', ⟨by first | omega | exact Nat.le_refl _⟩, ⟨Kd.eN HO301⟩, ⟨Kd.eN HO297⟩, ⟨eB BK303⟩, ⟨eH HB⟩⟩
  ·
   replace c11 := Bool.eq_false_iff.mpr c11
   subst c11
   have H1 : (fanlightlaw06_WalKeeps.j0 k a2 t299 true t295 t298) = some r := by rw [if_neg (show ¬ (false = true) by decide)] at H; exact H
   clear H
   have H := H1
   clear H1
   have H' := c' H
   clear H
   go_wp2_with (first | ((with_reducible refine gate_callee (f := 8) rfl ?_); refine gL 28 Try.func8 #[] (h := ?_); (with_reducible refine (fanlightlaw06_alive.calls k  false _ A10.out (hA _ _ A10.out)).mono ?_); rintro e w13 ⟨rfl, hb⟩; refine ⟨_, rfl, ?_⟩; have n0_ := c' (Kd.N_below (Kd.kN (a' (b' (p := ⟨gb303, 1, none⟩) (b' (p := ⟨gb303, 0, none⟩) (a' HO297.out (fun k_ hk => (⟨hk, hk.2⟩ : _ ∧ k_ ≠ gb303))) (fun _ hk => hk.2) (.slice Ao8 t295.length co8)) (fun _ hk => hk.2) (.int .i64 t298)) (fun _ h_ => h_.1))) hb); have n1_ := c' (Kd.N_below (Kd.kN (a' (b' (p := ⟨gb303, 1, none⟩) (b' (p := ⟨gb303, 0, none⟩) (a' HO301.out (fun k_ hk => (⟨hk, hk.2⟩ : _ ∧ k_ ≠ gb303))) (fun _ hk => hk.2) (.slice Ao8 t295.length co8)) (fun _ hk => hk.2) (.int .i64 t298)) (fun _ h_ => h_.1))) hb); have n2_ := c' (blk_below (g := gb303) (o := .cells #[.slice Ao8 t295.length co8, .int .i64 t298] 27 (0, 0)) (by refine eK ?_; refine blk_put (cs := #[.slice Ao8 t295.length co8, .int .i64 0]) ?_ 1 _ rfl; refine eK ?_; refine blk_put (cs := #[.slice none 0 0, .int .i64 0]) ?_ 0 _ rfl; refine eK ?_; exact BK303.out) hb); have n3_ := c' (below_step (eH HB) hb); clear HO297; clear HO301; clear BK303; clear HB; have HO297 := n0_; have HO301 := n1_; have BK303 := n2_; have HB := n3_; clear n0_ n1_ n2_ n3_; (try clear hb); (try clear hb2); (try clear hk); (try clear hi)))
   go_meet
   case rel => exact ⟨_, (true), rS, H', ⟨by first | omega | exact Nat.le_refl _⟩, ⟨Kd.eN HO301⟩, ⟨Kd.eN HO297⟩, ⟨eB BK303⟩, ⟨eH HB⟩⟩
 case rest =>
  clear HC5
  try clear c1
  try clear c2
  try clear p2
  try clear c6
  try clear c8
  try clear c11
  try clear hcz9_0
  try clear hcz9_1
  try clear hfz9_0
  try clear hfz9_1
  obtain ⟨kq, x33_4, rfl, HA, HJ4, HO_8, HO_304000, BK303, HB⟩ := hcut
  cases kq with
  | zero => exact absurd HA.out (by simp [fanlightlaw06_WalKeeps.j0])
  | succ kj4 =>
   have H := HA.out
   clear HA
   simp only [fanlightlaw06_WalKeeps.j0] at H
   by_cases c14 : x33_4 = true
   ·
    subst c14
    have H1 : (some false) = some r := by rw [if_pos rfl] at H; exact H
    clear H
    have H := H1
    clear H1
    obtain rfl := Option.some.inj H
    cases hT
   ·
    replace c14 := Bool.eq_false_iff.mpr c14
    subst c14
    have H1 : ((wal_Records.f kj4 t295 t298).bind fun bt305 => ((fanlightlaw06_num.f bt305.2).bind fun t309 => (if t309 = 0 then ((fanlightlaw06_same.f kj4 bt305.1 t299).bind fun t310 => (fanlightlaw06_WalKeeps.j1 kj4 a2 t299 (!t310) t295 t298)) else (fanlightlaw06_WalKeeps.j1 kj4 a2 t299 true t295 t298)))) = some r := by rw [if_neg (show ¬ (false = true) by decide)] at H; exact H
    clear H
    have H := H1
    clear H1
    replace H := Option.bind_eq_some_iff.mp H
    obtain ⟨⟨t305, t308⟩, A150, H⟩ := H
    (try dsimp only at H)
    have A15 := c' A150
    clear A150
    have HC16 := c' H
    clear H
    have hcz17_0 := bC BK303 0 (.slice Ao8 t295.length co8)
    have hcz17_1 := bC BK303 1 (.int .i64 t298)
    have hfz17_0 := blk_frozen BK303.out 0
    have hfz17_1 := blk_frozen BK303.out 1
    go_upto_region 5 with (first | ((with_reducible refine gate_callee (f := 16) rfl ?_); refine gL 36 Try.func16 #[.agg #[.slice Ao8 t295.length co8, .int .i64 t298]] (h := ?_); (with_reducible refine (wal_Records.calls kj4 _ _ t295 t298 t305 t308 _ ?side1 ?side2 A15.out).mono ?_); (case side1 => exact Kd.kC (Kd.N_reads' HO_304000.out).2.2); (case side2 => exact (Kd.N_reads' HO_304000.out).2.1); rintro e w18 ⟨v306, rfl, ho0, hb⟩; refine ⟨_, rfl, ?_⟩; have n0_ := c' (Kd.N_elder' (Kd.eN HO_8) (Kd.N_base ho0) hb); have n1_ := c' (Kd.N_elder' (Kd.eN HO_304000) (Kd.N_base ho0) hb); have n2_ := c' (Kd.N_lower (a' (ok' := fun k_ => some k_ ≠ (v300 : Value).ownBlock ∧ some k_ ≠ (.slice Ao8 t295.length co8 : Value).ownBlock ∧ k_ ≠ gb303) ho0 (fun k_ hk_ => ⟨(Kd.fresh' (Kd.N_lt (Kd.eN HO_8)) k_ hk_), (Kd.fresh' (Kd.N_lt (Kd.eN HO_304000)) k_ hk_), (Kd.freshB (g := gb303) (o := .cells #[.slice Ao8 t295.length co8, .int .i64 t298] 27 (0, 0)) (eB BK303) k_ hk_)⟩)) (below_size (eH HB))); have n3_ := bB BK303 hb; have n4_ := c' (below_step (eH HB) hb); clear HO_8; clear HO_304000; clear BK303; clear HB; have HO_8 := n0_; have HO_304000 := n1_; have HO307 := n2_; have BK303 := n3_; have HB := n4_; clear n0_ n1_ n2_ n3_ n4_; (try clear hb); (try clear hb2); (try clear hk); (try clear hi); (try clear ho0)))
    (try simp only [Act.put, List.setIfInBounds_toArray, List.set_cons_zero, List.set_cons_succ])
    go_cut [47] (fun v47 wc => ∃ (kq : Nat) (x47_15 : Bool), v47 = .bool x47_15 ∧ Aside0 (fanlightlaw06_WalKeeps.j1 kq a2 t299 x47_15 t295 t298 = some r) ∧ Aside0 (kq ≤ kj4) ∧ Aside0 (Kd.N k57 57 wc w.heap.size (fun k_ => some k_ ≠ ((.slice Ao8 t295.length co8) : Value).ownBlock ∧ k_ ≠ gb303) v300 t299) ∧ Aside0 (Kd.N (Kd.slice 5 (Kd.int .u8)) 25 wc w.heap.size (fun k_ => some k_ ≠ (v300 : Value).ownBlock ∧ k_ ≠ gb303) (.slice Ao8 t295.length co8) t295) ∧ Aside0 (wc.heap[gb303]? = some (.cells #[(.slice Ao8 t295.length co8), .int .i64 t298] 27 (0, 0))) ∧ Aside0 (Below w.heap.size w wc))
    case first =>
     have H := HC16.out
     clear HC16
     replace H := Option.bind_eq_some_iff.mp H
     obtain ⟨t309, A190, H⟩ := H
     (try dsimp only at H)
     have A19 := c' A190
     clear A190
     by_cases c20 : t309 = 0
     ·
      rw [if_pos c20] at H
      have c20b0 := beq_iff_eq.mpr c20
      have c20b1 := bne_eq_false_iff_eq.mpr c20
      clear c20
      (first | rw [c20b0] | (simp only [i64_w, i32_w]; rw [c20b0]) | rw [c20b1] | skip)
      replace H := Option.bind_eq_some_iff.mp H
      obtain ⟨t310, A210, H⟩ := H
      (try dsimp only at H)
      have A21 := c' A210
      clear A210
      have H' := c' H
      clear H
      go_wp2_with (first | ((with_reducible refine gate_callee (f := 14) rfl ?_); refine gL 40 Try.func14 #[.int .i64 t308] (h := ?_); (with_reducible refine (fanlightlaw06_num.calls t308 t309 _ A19.out).mono ?_); rintro e w' ⟨rfl, ⟨nd, rfl⟩⟩; refine ⟨_, rfl, ?_⟩; obtain ⟨Ao22, co22, eo22⟩ := Kd.N_slice HO307.out; subst eo22; obtain ⟨Ao23, co23, eo23⟩ := Kd.N_slice HO_8.out; subst eo23) | (go_at_call 20; (with_reducible refine (fanlightlaw06_same.calls kj4 _ _ t305 _ _ t299 t310 _ ?side1 ?side2 ?side3 ?side4 A21.out).mono ?_); (case side1 => exact Kd.kC (Kd.N_reads' HO307.out).2.2); (case side2 => exact (Kd.N_reads' HO307.out).2.1); (case side3 => exact Kd.kC (Kd.N_reads' HO_8.out).2.2); (case side4 => exact (Kd.N_reads' HO_8.out).2.1); rintro e w' ⟨rfl, ⟨nd, rfl⟩⟩))
      go_meet
      case rel => exact ⟨_, (!t310), rS, H', ⟨by have := HJ4.out; first | omega | exact Nat.le_refl _⟩, ⟨by (with_reducible repeat (first | apply Kd.N_alloc | apply Kd.N_drewN | apply Kd.N_drew)); exact a' HO_8.out (fun _ hk => ⟨hk.1.1, hk.1.2⟩)⟩, ⟨by (with_reducible repeat (first | apply Kd.N_alloc | apply Kd.N_drewN | apply Kd.N_drew)); exact a' HO_304000.out (fun _ hk => ⟨hk.1.1, hk.1.2⟩)⟩, ⟨eB BK303⟩, ⟨eH HB⟩⟩
     ·
      rw [if_neg c20] at H
      have c20b0 := beq_eq_false_iff_ne.mpr c20
      have c20b1 := bne_iff_ne.mpr c20
      (first | rw [c20b0] | (simp only [i64_w, i32_w]; rw [c20b0]) | rw [c20b1] | skip)
      have H' := c' H
      clear H
      go_wp2_with (first | ((with_reducible refine gate_callee (f := 14) rfl ?_); refine gL 40 Try.func14 #[.int .i64 t308] (h := ?_); (with_reducible refine (fanlightlaw06_num.calls t308 t309 _ A19.out).mono ?_); rintro e w' ⟨rfl, ⟨nd, rfl⟩⟩; refine ⟨_, rfl, ?_⟩))
      go_meet
      case rel => exact ⟨_, (true), rS, H', ⟨by have := HJ4.out; first | omega | exact Nat.le_refl _⟩, ⟨by (with_reducible repeat (first | apply Kd.N_alloc | apply Kd.N_drewN | apply Kd.N_drew)); exact a' HO_8.out (fun _ hk => ⟨hk.1.1, hk.1.2⟩)⟩, ⟨by (with_reducible repeat (first | apply Kd.N_alloc | apply Kd.N_drewN | apply Kd.N_drew)); exact a' HO_304000.out (fun _ hk => ⟨hk.1.1, hk.1.2⟩)⟩, ⟨eB BK303⟩, ⟨eH HB⟩⟩
    case rest =>
     clear HC16
     try clear c1
     try clear c2
     try clear p2
     try clear c6
     try clear c8
     try clear c11
     try clear c14
     try clear c16
     try clear c20
     try clear c20b0
     try clear c20b1
     try clear hcz17_0
     try clear hcz17_1
     try clear hcz9_0
     try clear hcz9_1
     try clear hfz17_0
     try clear hfz17_1
     try clear hfz9_0
     try clear hfz9_1
     try clear p2
     obtain ⟨kq, x47_15, rfl, HA, HJ15, HO_8, HO_304000, BK303, HB⟩ := hcut
     cases kq with
     | zero => exact absurd HA.out (by simp [fanlightlaw06_WalKeeps.j1])
     | succ kj15 =>
      have H := HA.out
      clear HA
      simp only [fanlightlaw06_WalKeeps.j1] at H
      by_cases c24 : x47_15 = true
      ·
       subst c24
       have H1 : (some false) = some r := by rw [if_pos rfl] at H; exact H
       clear H
       have H := H1
       clear H1
       obtain rfl := Option.some.inj H
       cases hT
      ·
       replace c24 := Bool.eq_false_iff.mpr c24
       subst c24
       have H1 : (fanlightlaw06_WalKeeps.l0 kj15 a2 t299 (wrap64 (t298 - (t299.length : Int))) ([] : List (List Int)) 0 t295 t298) = some r := by rw [if_neg (show ¬ (false = true) by decide)] at H; exact H
       clear H
       have H := H1
       clear H1
       have H' := c' H
       clear H
       have hcz25_0 := bC BK303 0 (.slice Ao8 t295.length co8)
       have hcz25_1 := bC BK303 1 (.int .i64 t298)
       have hfz25_0 := blk_frozen BK303.out 0
       have hfz25_1 := blk_frozen BK303.out 1
       obtain ⟨Ao26, co26, eo26⟩ := Kd.N_slice HO_8.out
       subst eo26
       go_wp2
       go_loopg [13, 14] kj15 (fun kq v13 v14 w' => ∃ (x13_3 : List (List Int)) (x14_3 : Int), v14 = .int .i64 x14_3 ∧ Aside0 (fanlightlaw06_WalKeeps.l0 kq a2 t299 (wrap64 (t298 - (t299.length : Int))) x13_3 x14_3 t295 t298 = some r) ∧ Aside0 (kq ≤ kj15) ∧ Aside0 (Kd.N k57 57 w' w.heap.size (fun k_ => some k_ ≠ (v13 : Value).ownBlock ∧ some k_ ≠ ((.slice Ao8 t295.length co8) : Value).ownBlock ∧ k_ ≠ gb303) (.slice Ao26 t299.length co26) t299) ∧ Aside0 (Kd.N (Kd.slice 5 (Kd.int .u8)) 25 w' w.heap.size (fun k_ => some k_ ≠ ((.slice Ao26 t299.length co26) : Value).ownBlock ∧ some k_ ≠ ((.slice Ao8 t295.length co8) : Value).ownBlock ∧ k_ ≠ gb303) v13 x13_3) ∧ Aside0 (Kd.N (Kd.slice 5 (Kd.int .u8)) 25 w' w.heap.size (fun k_ => some k_ ≠ ((.slice Ao26 t299.length co26) : Value).ownBlock ∧ some k_ ≠ (v13 : Value).ownBlock ∧ k_ ≠ gb303) (.slice Ao8 t295.length co8) t295) ∧ Aside0 (w'.heap[gb303]? = some (.cells #[(.slice Ao8 t295.length co8), .int .i64 t298] 27 (0, 0))) ∧ Aside0 (Below w.heap.size w w'))
       case atStart => exact ⟨(([] : List (List Int))), (0), rS, H', ⟨Nat.le_refl _⟩, ⟨by (with_reducible repeat (first | apply Kd.N_alloc | apply Kd.N_drewN | apply Kd.N_drew)); exact a' HO_8.out (fun _ hk => ⟨(by simp [Value.ownBlock]), ⟨hk.1, hk.2⟩⟩)⟩, ⟨nS⟩, ⟨by (with_reducible repeat (first | apply Kd.N_alloc | apply Kd.N_drewN | apply Kd.N_drew)); exact a' HO_304000.out (fun _ hk => ⟨hk.1, ⟨(by simp [Value.ownBlock]), hk.2⟩⟩)⟩, ⟨eB BK303⟩, ⟨eH HB⟩⟩
       case round =>
        clear H'
        try clear c1
        try clear c2
        try clear p2
        try clear c6
        try clear p6
        try clear c8
        try clear c11
        try clear c14
        try clear c16
        try clear c20
        try clear c20b0
        try clear c20b1
        try clear c24
        try clear hcz17_0
        try clear hcz17_1
        try clear hcz25_0
        try clear hcz25_1
        try clear hcz9_0
        try clear hcz9_1
        try clear hfz17_0
        try clear hfz17_1
        try clear hfz25_0
        try clear hfz25_1
        try clear hfz9_0
        try clear hfz9_1
        try clear p2
        obtain ⟨x13_3, x14_3, rfl, HA, HK3, HO_8, HO_13, HO_304000, BK303, HB⟩ := hrel
        cases gk with
        | zero => exact absurd HA.out (by simp [fanlightlaw06_WalKeeps.l0])
        | succ k3 =>
         have H := HA.out
         clear HA
         simp only [fanlightlaw06_WalKeeps.l0] at H
         by_cases c27 : x14_3 < (t295.length : Int)
         ·
          rw [if_pos c27] at H
          have c27b0 := decide_eq_true c27
          clear c27
          by_cases c28 : 0 ≤ x14_3
          ·
           rw [if_pos c28] at H
           have c28b0 := decide_eq_true c28
           clear c28
           replace H := Option.bind_eq_some_iff.mp H
           obtain ⟨t312, A290, H⟩ := H
           (try dsimp only at H)
           have A29 := c' A290
           clear A290
           have H' := c' H
           clear H
           have hcz30_0 := bC BK303 0 (.slice Ao8 t295.length co8)
           have hcz30_1 := bC BK303 1 (.int .i64 t298)
           have hfz30_0 := blk_frozen BK303.out 0
           have hfz30_1 := blk_frozen BK303.out 1
           have p311 : 0 ≤ (x14_3 : Int) := oD
           have q311 : x14_3 < (t295.length : Int) := oD
           obtain ⟨ad311, A311_0, c311_0, e311, hx311_0, hl311_0, hi311_0⟩ := at_L1 (Kd.N_reads' HO_304000.out).2.2 x14_3 p311 q311
           cases e311
           obtain ⟨ce311, hce311, hMe311, hcc311⟩ := Kd.N_get HO_304000.out [] x14_3 p311 (by first | exact q311 | exact oD | (have e_ := (Kd.N_reads' HO_304000.out).1; omega))
           obtain ⟨ua311_0, uc311_0, rfl, ul311_0, ge311_0⟩ := Kd.FK_slice_open hMe311
           have hv311_0 := hcc311 0 _ rfl
           rw [Nat.add_zero, show ((Kd.slice 5 (Kd.int .u8))).sz = 1 from rfl, Nat.mul_one] at hv311_0
           replace hv311_0 := Option.some.inj (hv311_0.symm.trans hx311_0)
           injection hv311_0 with hva_ hvn_ hvc_
           rw [hva_] at ge311_0
           rw [hvc_] at ul311_0
           have HL311_0 := c' (show Kd.V (Kd.int .u8) 5 _ w.heap.size _ _ (rd_L1 t295 x14_3) from Kd.V_mk ul311_0 ge311_0)
           clear hva_ hvn_ hvc_ ge311_0 ul311_0
           clear hcc311 hce311
           have HR311_0 := c' hi311_0
           have HC311_0 := c' hl311_0
           clear hi311_0 hl311_0
           replace p311 := eq_true p311
           replace q311 := eq_true q311
           go_wp2_with (first | ((with_reducible refine gate_callee (f := 10) rfl ?_); refine gL 65 Try.func10 #[.slice A311_0 (rd_L1 t295 x14_3).length c311_0] (h := ?_); (with_reducible refine (fanlightplain_CopyBytes.calls _ _ (rd_L1 t295 x14_3) t312 _ ?side1 ?side2 A29.out).mono ?_); (case side1 => exact Kd.cC HR311_0); (case side2 => exact HC311_0.out); rintro e w31 ⟨v313, rfl, ho0, hb⟩; refine ⟨_, rfl, ?_⟩; have n0_ := c' (Kd.N_elder' (Kd.eN HO_8) (Kd.R_base ho0) hb); have n1_ := c' (Kd.N_elder' (Kd.eN HO_13) (Kd.R_base ho0) hb); have n2_ := c' (Kd.N_elder' (Kd.eN HO_304000) (Kd.R_base ho0) hb); have n3_ := c' (Kd.V_elder' (Kd.eV HL311_0) (Kd.R_base ho0) hb); have n4_ := c' (Kd.R_lower ho0 (below_size (eH HB))); have n5_ := bB BK303 hb; have n6_ := c' (Kd.C_below (Kd.cC HR311_0) hb); have n7_ := c' (below_step (eH HB) hb); clear HO_8; clear HO_13; clear HO_304000; clear HL311_0; clear BK303; clear HR311_0; clear HB; have HO_8 := n0_; have HO_13 := n1_; have HO_304000 := n2_; have HL311_0 := n3_; have HO314 := n4_; have BK303 := n5_; have HR311_0 := n6_; have HB := n7_; clear n0_ n1_ n2_ n3_ n4_ n5_ n6_ n7_; (try clear hb); (try clear hb2); (try clear hk); (try clear hi); (try clear ho0)))
           go_loopg [15, 16] k3 (fun kq v15 v16 w' => ∃ (x15_4 : List Int) (x16_4 : Int), v16 = .int .i64 x16_4 ∧ Aside0 (fanlightlaw06_WalKeeps.l1 kq a2 t299 (wrap64 (t298 - (t299.length : Int))) x13_3 x14_3 x15_4 x16_4 t295 t298 = some r) ∧ Aside0 (kq ≤ k3) ∧ Aside0 (Kd.N k57 57 w' w.heap.size (fun k_ => some k_ ≠ (u13 : Value).ownBlock ∧ some k_ ≠ (v15 : Value).ownBlock ∧ some k_ ≠ ((.slice (some ad311) t295.length co8) : Value).ownBlock ∧ k_ ≠ gb303) (.slice Ao26 t299.length co26) t299) ∧ Aside0 (Kd.N (Kd.slice 5 (Kd.int .u8)) 25 w' w.heap.size (fun k_ => some k_ ≠ ((.slice Ao26 t299.length co26) : Value).ownBlock ∧ some k_ ≠ (v15 : Value).ownBlock ∧ some k_ ≠ ((.slice (some ad311) t295.length co8) : Value).ownBlock ∧ k_ ≠ gb303) u13 x13_3) ∧ Aside0 (Kd.R (Kd.int .u8) 5 w' w.heap.size (fun _ => True) v15 x15_4) ∧ Aside0 (Kd.N (Kd.slice 5 (Kd.int .u8)) 25 w' w.heap.size (fun k_ => some k_ ≠ ((.slice Ao26 t299.length co26) : Value).ownBlock ∧ some k_ ≠ (u13 : Value).ownBlock ∧ some k_ ≠ (v15 : Value).ownBlock ∧ k_ ≠ gb303) (.slice (some ad311) t295.length co8) t295) ∧ Aside0 (w'.heap[gb303]? = some (.cells #[(.slice (some ad311) t295.length co8), .int .i64 t298] 27 (0, 0))) ∧ Aside0 (Below w.heap.size w w'))
           case atStart => exact ⟨(t312), (0), rS, H', ⟨Nat.le_refl _⟩, ⟨by (with_reducible repeat (first | apply Kd.N_alloc | apply Kd.N_drewN | apply Kd.N_drew)); exact a' HO_8.out (fun _ hk => ⟨hk.1.1, ⟨hk.2, ⟨hk.1.2.1, hk.1.2.2⟩⟩⟩)⟩, ⟨by (with_reducible repeat (first | apply Kd.N_alloc | apply Kd.N_drewN | apply Kd.N_drew)); exact a' HO_13.out (fun _ hk => ⟨hk.1.1, ⟨hk.2, ⟨hk.1.2.1, hk.1.2.2⟩⟩⟩)⟩, ⟨Kd.eR HO314⟩, ⟨by (with_reducible repeat (first | apply Kd.N_alloc | apply Kd.N_drewN | apply Kd.N_drew)); exact a' HO_304000.out (fun _ hk => ⟨hk.1.1, ⟨hk.1.2.1, ⟨hk.2, hk.1.2.2⟩⟩⟩)⟩, ⟨eB BK303⟩, ⟨eH HB⟩⟩
           case round =>
            clear H'
            try clear c1
            try clear c2
            try clear p2
            try clear c3
            try clear p3
            try clear q3
            try clear hx3
            try clear c6
            try clear p6
            try clear c8
            try clear c10
            try clear c11
            try clear c14
            try clear c16
            try clear c20
            try clear c20b0
            try clear c20b1
            try clear c24
            try clear c27
            try clear c27b0
            try clear c28
            try clear c28b0
            try clear c31
            try clear p31
            try clear q31
            try clear hx31
            try clear hcz17_0
            try clear hcz17_1
            try clear hcz25_0
            try clear hcz25_1
            try clear hcz30_0
            try clear hcz30_1
            try clear hcz9_0
            try clear hcz9_1
            try clear hfz17_0
            try clear hfz17_1
            try clear hfz25_0
            try clear hfz25_1
            try clear hfz30_0
            try clear hfz30_1
            try clear hfz9_0
            try clear hfz9_1
            try clear hx311_0
            try clear p2
            try clear p311
            try clear p6
            try clear q311
            obtain ⟨x15_4, x16_4, rfl, HA, HK4, HO_8, HO_13, HO_15, HO_304000, BK303, HB⟩ := hrel
            cases gk with
            | zero => exact absurd HA.out (by simp [fanlightlaw06_WalKeeps.l1])
            | succ k4 =>
             have H := HA.out
             clear HA
             simp only [fanlightlaw06_WalKeeps.l1] at H
             by_cases c32 : x16_4 < (Int.tmod (wrap64 ((Int.tmod a2 9) + 9)) 9)
             ·
              rw [if_pos c32] at H
              have c32b0 := decide_eq_true c32
              clear c32
              by_cases c33 : (x15_4.length : Int) < 480
              ·
               rw [if_pos c33] at H
               have c33b0 := decide_eq_true c33
               have c33b1 : decide (x15_4.length < 480) = true := decide_eq_true (by omega)
               clear c33
               by_cases c34 : x15_4.length < 140737488355328
               ·
                rw [if_pos c34] at H
                have LMc34 := c' c34
                clear c34
                obtain ⟨y315, hy315⟩ : ∃ y_ : List Int, y_ = (x15_4 ++ [0]) := ⟨_, rfl⟩
                replace H : (fanlightlaw06_WalKeeps.l1 k4 a2 t299 (wrap64 (t298 - (t299.length : Int))) x13_3 x14_3 y315 (wrap64 (x16_4 + 1)) t295 t298) = some r := by rw [hy315]; exact H
                have Ny315 := c' hy315
                clear hy315
                have H' := c' H
                clear H
                obtain ⟨Ao35, co35, eo35⟩ := Kd.R_slice HO_15.out
                subst eo35
                go_wp2_with (first | ((with_reducible refine gate_builtin (b := .append) (xs := #[.tmp 79, .tmp 80]) rfl ?_); (try (refine gate_guard (by rfl) ?_; dsimp only)); at_builtin; refine Kd.R_append (Kd.int .u8) (w0 := w) w.heap.size rfl (.tmp 79) (.tmp 80) 25 5 (.int .u8 0) 1 rfl Try.underlying25 info5 rfl (by decide) (by omega) (.slice Ao35 x15_4.length co35) x15_4 0 [.int .u8 0] (fun _ => True) (fun _ => False) rfl rfl ?aP (fun _ hk => hk.elim) ?aF ?aO ?aB ?aS ?aL ?_; (case aP => exact rfl); (case aB => exact (eH HB)); (case aF => exact (fun _ _ => trivial)); (case aO => exact (Kd.eR HO_15)); (case aS => exact (below_size (eH HB))); (case aL => have := LMc34.out; omega); intro v316 w36 ho hb hg hat; rw [← Ny315.out] at ho; have n0_ := c' (Kd.N_afterv (ok := (fun k_ => some k_ ≠ (u13 : Value).ownBlock ∧ some k_ ≠ (.slice (some ad311) t295.length co8 : Value).ownBlock ∧ k_ ≠ gb303)) (Kd.kN (a' HO_8.out (fun _ hk => ⟨⟨hk.1, ⟨hk.2.2.1, hk.2.2.2⟩⟩, hk.2.1⟩))) hg hat); have n1_ := c' (Kd.N_afterv (ok := (fun k_ => some k_ ≠ (.slice Ao26 t299.length co26 : Value).ownBlock ∧ some k_ ≠ (.slice (some ad311) t295.length co8 : Value).ownBlock ∧ k_ ≠ gb303)) (Kd.kN (a' HO_13.out (fun _ hk => ⟨⟨hk.1, ⟨hk.2.2.1, hk.2.2.2⟩⟩, hk.2.1⟩))) hg hat); have n2_ := c' (Kd.N_afterv (ok := (fun k_ => some k_ ≠ (.slice Ao26 t299.length co26 : Value).ownBlock ∧ some k_ ≠ (u13 : Value).ownBlock ∧ k_ ≠ gb303)) (Kd.kN (a' HO_304000.out (fun _ hk => ⟨⟨hk.1, ⟨hk.2.1, hk.2.2.2⟩⟩, hk.2.2.1⟩))) hg hat); have n3_ := c' (blk_grown (g := gb303) (o := .cells #[.slice (some ad311) t295.length co8, .int .i64 t298] 27 (0, 0)) (eB BK303) hg (Kd.R_ne HO_15.out BK303.out (by decide))); have n4_ := c' (hb); have n5_ := c' (ho); clear HO_8; clear HO_13; clear HO_304000; clear BK303; clear HB; clear HO_15; have HO_8 := n0_; have HO_13 := n1_; have HO_304000 := n2_; have BK303 := n3_; have HB := n4_; have HO317 := n5_; clear n0_ n1_ n2_ n3_ n4_ n5_; clear ho hb hg hat))
                go_roundg k4
                case measure => have := HJ4.out; have := HJ15.out; have := HK3.out; have := HK4.out; omega
                case rel => exact ⟨(y315), (wrap64 (x16_4 + 1)), rS, H', ⟨by have := HJ4.out; have := HJ15.out; have := HK3.out; have := HK4.out; omega⟩, ⟨by (with_reducible repeat (first | apply Kd.N_alloc | apply Kd.N_drewN | apply Kd.N_drew)); exact a' HO_8.out (fun _ hk => ⟨hk.1.1, ⟨hk.2, ⟨hk.1.2.1, hk.1.2.2⟩⟩⟩)⟩, ⟨by (with_reducible repeat (first | apply Kd.N_alloc | apply Kd.N_drewN | apply Kd.N_drew)); exact a' HO_13.out (fun _ hk => ⟨hk.1.1, ⟨hk.2, ⟨hk.1.2.1, hk.1.2.2⟩⟩⟩)⟩, ⟨Kd.eR HO317⟩, ⟨by (with_reducible repeat (first | apply Kd.N_alloc | apply Kd.N_drewN | apply Kd.N_drew)); exact a' HO_304000.out (fun _ hk => ⟨hk.1.1, ⟨hk.1.2.1, ⟨hk.2, hk.1.2.2⟩⟩⟩)⟩, ⟨eB BK303⟩, ⟨eH HB⟩⟩
               ·
                rw [if_neg c34] at H
                exact absurd H (by simp)
              ·
               rw [if_neg c33] at H
               have c33b0 := decide_eq_false c33
               have c33b1 : decide (x15_4.length < 480) = false := decide_eq_false (by omega)
               clear c33
               by_cases c37 : x13_3.length < 5864062014805
               ·
                rw [if_pos c37] at H
                have LMc37 := c' c37
                clear c37
                obtain ⟨y318, hy318⟩ : ∃ y_ : List (List Int), y_ = (x13_3 ++ [x15_4]) := ⟨_, rfl⟩
                replace H : (fanlightlaw06_WalKeeps.l0 k4 a2 t299 (wrap64 (t298 - (t299.length : Int))) y318 (wrap64 (x14_3 + 1)) t295 t298) = some r := by rw [hy318]; exact H
                have Ny318 := c' hy318
                clear hy318
                have H' := c' H
                clear H
                obtain ⟨Ao38, co38, eo38⟩ := Kd.R_slice HO_15.out
                subst eo38
                go_wp2_with (first | ((with_reducible refine gate_builtin (b := .append) (xs := #[.tmp 82, .tmp 84]) rfl ?_); (try (refine gate_guard (by rfl) ?_; dsimp only)); at_builtin; refine Kd.N_append (Kd.slice 5 (Kd.int .u8)) (w0 := w) w.heap.size rfl (.tmp 82) (.tmp 84) 22 25 (.slice none 0 0) 24 rfl Try.underlying22 info25 rfl (by decide) (by omega) u13 x13_3 x15_4 [.slice Ao38 x15_4.length co38] (fun k_ => some k_ ≠ (.slice Ao26 t299.length co26 : Value).ownBlock ∧ some k_ ≠ (.slice (some ad311) t295.length co8 : Value).ownBlock ∧ k_ ≠ gb303) (fun k_ => ((fun k_ => some k_ ≠ (.slice Ao26 t299.length co26 : Value).ownBlock ∧ some k_ ≠ (.slice (some ad311) t295.length co8 : Value).ownBlock ∧ k_ ≠ gb303)) k_ ∧ some k_ ≠ (u13 : Value).ownBlock) rfl rfl ?aP (fun _ hk => hk) ?aF ?aO ?aB ?aS ?aL ?_; (case aP => exact (Kd.FK_slice_mk (Kd.R_reads' (Kd.R_mono (ok' := (fun k_ => ((fun k_ => some k_ ≠ (.slice Ao26 t299.length co26 : Value).ownBlock ∧ some k_ ≠ (.slice (some ad311) t295.length co8 : Value).ownBlock ∧ k_ ≠ gb303)) k_ ∧ some k_ ≠ (u13 : Value).ownBlock)) (Kd.R_types (Kd.R_apart' (Kd.R_apart' (Kd.R_apart' (HO_15.out) (Kd.N_typed HO_8.out) (by decide)) (Kd.N_typed HO_304000.out) (by decide)) (Kd.N_typed HO_13.out) (by decide)) BK303.out (by decide)) (fun k_ hk => ⟨⟨hk.1.1.1.2, ⟨hk.1.1.2, hk.2⟩⟩, hk.1.2⟩))).2.1 (Kd.R_F (Kd.R_mono (ok' := (fun k_ => ((fun k_ => some k_ ≠ (.slice Ao26 t299.length co26 : Value).ownBlock ∧ some k_ ≠ (.slice (some ad311) t295.length co8 : Value).ownBlock ∧ k_ ≠ gb303)) k_ ∧ some k_ ≠ (u13 : Value).ownBlock)) (Kd.R_types (Kd.R_apart' (Kd.R_apart' (Kd.R_apart' (HO_15.out) (Kd.N_typed HO_8.out) (by decide)) (Kd.N_typed HO_304000.out) (by decide)) (Kd.N_typed HO_13.out) (by decide)) BK303.out (by decide)) (fun k_ hk => ⟨⟨hk.1.1.1.2, ⟨hk.1.1.2, hk.2⟩⟩, hk.1.2⟩))))); (case aB => exact (eH HB)); (case aF => exact (fun k_ hk => ⟨Kd.fresh' (Kd.N_lt (Kd.eN HO_8)) k_ hk, Kd.fresh' (Kd.N_lt (Kd.eN HO_304000)) k_ hk, Kd.freshB (g := gb303) (o := .cells #[.slice (some ad311) t295.length co8, .int .i64 t298] 27 (0, 0)) (eB BK303) k_ hk⟩)); (case aO => exact (Kd.kN (a' HO_13.out (fun _ hk => ⟨hk.1, ⟨hk.2.2.1, hk.2.2.2⟩⟩)))); (case aS => exact (below_size (eH HB))); (case aL => have := LMc37.out; omega); intro v319 w39 ho hb hg hat; rw [← Ny318.out] at ho; have n0_ := c' (Kd.N_afterv (ok := (fun k_ => some k_ ≠ (.slice Ao38 x15_4.length co38 : Value).ownBlock ∧ some k_ ≠ (.slice (some ad311) t295.length co8 : Value).ownBlock ∧ k_ ≠ gb303)) (Kd.kN (a' HO_8.out (fun _ hk => ⟨⟨hk.2.1, ⟨hk.2.2.1, hk.2.2.2⟩⟩, hk.1⟩))) hg hat); have n1_ := c' (Kd.N_afterv (ok := (fun k_ => some k_ ≠ (.slice Ao26 t299.length co26 : Value).ownBlock ∧ some k_ ≠ (.slice Ao38 x15_4.length co38 : Value).ownBlock ∧ k_ ≠ gb303)) (Kd.kN (a' HO_304000.out (fun _ hk => ⟨⟨hk.1, ⟨hk.2.2.1, hk.2.2.2⟩⟩, hk.2.1⟩))) hg hat); have n2_ := c' (blk_grown (g := gb303) (o := .cells #[.slice (some ad311) t295.length co8, .int .i64 t298] 27 (0, 0)) (eB BK303) hg (Kd.N_ne HO_13.out BK303.out (by decide))); have n3_ := c' (hb); have n4_ := c' (ho); clear HO_8; clear HO_304000; clear BK303; clear HB; clear HO_13; clear HO_15; have HO_8 := n0_; have HO_304000 := n1_; have BK303 := n2_; have HB := n3_; have HO320 := n4_; clear n0_ n1_ n2_ n3_ n4_; clear ho hb hg hat))
                go_roundg k4
                case measure => have := HJ4.out; have := HJ15.out; have := HK3.out; have := HK4.out; omega
                case rel => exact ⟨(y318), (wrap64 (x14_3 + 1)), rS, H', ⟨by have := HJ4.out; have := HJ15.out; have := HK3.out; have := HK4.out; omega⟩, ⟨by (with_reducible repeat (first | apply Kd.N_alloc | apply Kd.N_drewN | apply Kd.N_drew)); exact a' HO_8.out (fun _ hk => ⟨hk.2, ⟨hk.1.2.1, hk.1.2.2⟩⟩)⟩, ⟨Kd.eN HO320⟩, ⟨by (with_reducible repeat (first | apply Kd.N_alloc | apply Kd.N_drewN | apply Kd.N_drew)); exact a' HO_304000.out (fun _ hk => ⟨hk.1.1, ⟨hk.2, hk.1.2.2⟩⟩)⟩, ⟨eB BK303⟩, ⟨eH HB⟩⟩
               ·
                rw [if_neg c37] at H
                exact absurd H (by simp)
             ·
              rw [if_neg c32] at H
              have c32b0 := decide_eq_false c32
              clear c32
              by_cases c40 : x13_3.length < 5864062014805
              ·
               rw [if_pos c40] at H
               have LMc40 := c' c40
               clear c40
               obtain ⟨y321, hy321⟩ : ∃ y_ : List (List Int), y_ = (x13_3 ++ [x15_4]) := ⟨_, rfl⟩
               replace H : (fanlightlaw06_WalKeeps.l0 k4 a2 t299 (wrap64 (t298 - (t299.length : Int))) y321 (wrap64 (x14_3 + 1)) t295 t298) = some r := by rw [hy321]; exact H
               have Ny321 := c' hy321
               clear hy321
               have H' := c' H
               clear H
               obtain ⟨Ao42, co42, eo42⟩ := Kd.R_slice HO_15.out
               subst eo42
               go_wp2_with (first | ((with_reducible refine gate_builtin (b := .append) (xs := #[.tmp 82, .tmp 84]) rfl ?_); (try (refine gate_guard (by rfl) ?_; dsimp only)); at_builtin; refine Kd.N_append (Kd.slice 5 (Kd.int .u8)) (w0 := w) w.heap.size rfl (.tmp 82) (.tmp 84) 22 25 (.slice none 0 0) 24 rfl Try.underlying22 info25 rfl (by decide) (by omega) u13 x13_3 x15_4 [.slice Ao42 x15_4.length co42] (fun k_ => some k_ ≠ (.slice Ao26 t299.length co26 : Value).ownBlock ∧ some k_ ≠ (.slice (some ad311) t295.length co8 : Value).ownBlock ∧ k_ ≠ gb303) (fun k_ => ((fun k_ => some k_ ≠ (.slice Ao26 t299.length co26 : Value).ownBlock ∧ some k_ ≠ (.slice (some ad311) t295.length co8 : Value).ownBlock ∧ k_ ≠ gb303)) k_ ∧ some k_ ≠ (u13 : Value).ownBlock) rfl rfl ?aP (fun _ hk => hk) ?aF ?aO ?aB ?aS ?aL ?_; (case aP => exact (Kd.FK_slice_mk (Kd.R_reads' (Kd.R_mono (ok' := (fun k_ => ((fun k_ => some k_ ≠ (.slice Ao26 t299.length co26 : Value).ownBlock ∧ some k_ ≠ (.slice (some ad311) t295.length co8 : Value).ownBlock ∧ k_ ≠ gb303)) k_ ∧ some k_ ≠ (u13 : Value).ownBlock)) (Kd.R_types (Kd.R_apart' (Kd.R_apart' (Kd.R_apart' (HO_15.out) (Kd.N_typed HO_8.out) (by decide)) (Kd.N_typed HO_304000.out) (by decide)) (Kd.N_typed HO_13.out) (by decide)) BK303.out (by decide)) (fun k_ hk => ⟨⟨hk.1.1.1.2, ⟨hk.1.1.2, hk.2⟩⟩, hk.1.2⟩))).2.1 (Kd.R_F (Kd.R_mono (ok' := (fun k_ => ((fun k_ => some k_ ≠ (.slice Ao26 t299.length co26 : Value).ownBlock ∧ some k_ ≠ (.slice (some ad311) t295.length co8 : Value).ownBlock ∧ k_ ≠ gb303)) k_ ∧ some k_ ≠ (u13 : Value).ownBlock)) (Kd.R_types (Kd.R_apart' (Kd.R_apart' (Kd.R_apart' (HO_15.out) (Kd.N_typed HO_8.out) (by decide)) (Kd.N_typed HO_304000.out) (by decide)) (Kd.N_typed HO_13.out) (by decide)) BK303.out (by decide)) (fun k_ hk => ⟨⟨hk.1.1.1.2, ⟨hk.1.1.2, hk.2⟩⟩, hk.1.2⟩))))); (case aB => exact (eH HB)); (case aF => exact (fun k_ hk => ⟨Kd.fresh' (Kd.N_lt (Kd.eN HO_8)) k_ hk, Kd.fresh' (Kd.N_lt (Kd.eN HO_304000)) k_ hk, Kd.freshB (g := gb303) (o := .cells #[.slice (some ad311) t295.length co8, .int .i64 t298] 27 (0, 0)) (eB BK303) k_ hk⟩)); (case aO => exact (Kd.kN (a' HO_13.out (fun _ hk => ⟨hk.1, ⟨hk.2.2.1, hk.2.2.2⟩⟩)))); (case aS => exact (below_size (eH HB))); (case aL => have := LMc40.out; omega); intro v322 w41 ho hb hg hat; rw [← Ny321.out] at ho; have n0_ := c' (Kd.N_afterv (ok := (fun k_ => some k_ ≠ (.slice Ao42 x15_4.length co42 : Value).ownBlock ∧ some k_ ≠ (.slice (some ad311) t295.length co8 : Value).ownBlock ∧ k_ ≠ gb303)) (Kd.kN (a' HO_8.out (fun _ hk => ⟨⟨hk.2.1, ⟨hk.2.2.1, hk.2.2.2⟩⟩, hk.1⟩))) hg hat); have n1_ := c' (Kd.N_afterv (ok := (fun k_ => some k_ ≠ (.slice Ao26 t299.length co26 : Value).ownBlock ∧ some k_ ≠ (.slice Ao42 x15_4.length co42 : Value).ownBlock ∧ k_ ≠ gb303)) (Kd.kN (a' HO_304000.out (fun _ hk => ⟨⟨hk.1, ⟨hk.2.2.1, hk.2.2.2⟩⟩, hk.2.1⟩))) hg hat); have n2_ := c' (blk_grown (g := gb303) (o := .cells #[.slice (some ad311) t295.length co8, .int .i64 t298] 27 (0, 0)) (eB BK303) hg (Kd.N_ne HO_13.out BK303.out (by decide))); have n3_ := c' (hb); have n4_ := c' (ho); clear HO_8; clear HO_304000; clear BK303; clear HB; clear HO_13; clear HO_15; have HO_8 := n0_; have HO_304000 := n1_; have BK303 := n2_; have HB := n3_; have HO323 := n4_; clear n0_ n1_ n2_ n3_ n4_; clear ho hb hg hat))
               go_roundg k4
               case measure => have := HJ4.out; have := HJ15.out; have := HK3.out; have := HK4.out; omega
               case rel => exact ⟨(y321), (wrap64 (x14_3 + 1)), rS, H', ⟨by have := HJ4.out; have := HJ15.out; have := HK3.out; have := HK4.out; omega⟩, ⟨by (with_reducible repeat (first | apply Kd.N_alloc | apply Kd.N_drewN | apply Kd.N_drew)); exact a' HO_8.out (fun _ hk => ⟨hk.2, ⟨hk.1.2.1, hk.1.2.2⟩⟩)⟩, ⟨Kd.eN HO323⟩, ⟨by (with_reducible repeat (first | apply Kd.N_alloc | apply Kd.N_drewN | apply Kd.N_drew)); exact a' HO_304000.out (fun _ hk => ⟨hk.1.1, ⟨hk.2, hk.1.2.2⟩⟩)⟩, ⟨eB BK303⟩, ⟨eH HB⟩⟩
              ·
               rw [if_neg c40] at H
               exact absurd H (by simp)
          ·
           rw [if_neg c28] at H
           exact absurd H (by simp)
         ·
          rw [if_neg c27] at H
          have c27b0 := decide_eq_false c27
          clear c27
          replace H := Option.bind_eq_some_iff.mp H
          obtain ⟨⟨t324, t327, t328⟩, A430, H⟩ := H
          (try dsimp only at H)
          have A43 := c' A430
          clear A430
          replace H := Option.bind_eq_some_iff.mp H
          obtain ⟨⟨t330, t333⟩, A440, H⟩ := H
          (try dsimp only at H)
          have A44 := c' A440
          clear A440
          replace H := Option.bind_eq_some_iff.mp H
          obtain ⟨t334, A450, H⟩ := H
          (try dsimp only at H)
          have A45 := c' A450
          clear A450
          replace H := Option.bind_eq_some_iff.mp H
          obtain ⟨t335, A460, H⟩ := H
          (try dsimp only at H)
          have A46 := c' A460
          clear A460
          by_cases c47 : (wrap64 (t334 + t335)) = 0
          ·
           rw [if_pos c47] at H
           have c47b0 := beq_iff_eq.mpr c47
           have c47b1 := bne_eq_false_iff_eq.mpr c47
           clear c47
           by_cases c48 : t327 = t298
           ·
            rw [if_pos c48] at H
            have c48b0 := beq_iff_eq.mpr c48
            have c48b1 := bne_eq_false_iff_eq.mpr c48
            clear c48
            replace H := Option.bind_eq_some_iff.mp H
            obtain ⟨t336, A490, H⟩ := H
            (try dsimp only at H)
            have A49 := c' A490
            clear A490
            obtain rfl := Option.some.inj H
            have hcz50_0 := bC BK303 0 (.slice Ao8 t295.length co8)
            have hcz50_1 := bC BK303 1 (.int .i64 t298)
            have hfz50_0 := blk_frozen BK303.out 0
            have hfz50_1 := blk_frozen BK303.out 1
            obtain ⟨Ao51, co51, eo51⟩ := Kd.N_slice HO_13.out
            subst eo51
            go_wp2_with (first | ((with_reducible refine gate_callee (f := 25) rfl ?_); refine gL 89 Try.func25 #[.slice Ao51 x13_3.length co51, .int .i64 (wrap64 (t298 - (t299.length : Int)))] (h := ?_); (with_reducible refine (wal_Recover.calls k3 _ _ x13_3 (wrap64 (t298 - (t299.length : Int))) t324 t327 t328 _ ?side1 ?side2 A43.out).mono ?_); (case side1 => exact Kd.kC (Kd.N_reads' HO_13.out).2.2); (case side2 => exact (Kd.N_reads' HO_13.out).2.1); rintro e w52 ⟨v325, rfl, ho0, hb⟩; refine ⟨_, rfl, ?_⟩; have n0_ := c' (Kd.N_elder' (Kd.eN HO_8) (Kd.S_base ho0) hb); have n1_ := c' (Kd.N_elder' (Kd.eN HO_13) (Kd.S_base ho0) hb); have n2_ := c' (Kd.N_elder' (Kd.eN HO_304000) (Kd.S_base ho0) hb); have n3_ := c' (Kd.N_lower (a' (ok' := fun k_ => some k_ ≠ (.slice Ao26 t299.length co26 : Value).ownBlock ∧ some k_ ≠ (.slice Ao51 x13_3.length co51 : Value).ownBlock ∧ some k_ ≠ (.slice Ao8 t295.length co8 : Value).ownBlock ∧ k_ ≠ gb303) (Kd.S_N (Kd.S_bound ho0)) (fun k_ hk_ => ⟨(Kd.fresh' (Kd.N_lt (Kd.eN HO_8)) k_ hk_.2.1), (Kd.fresh' (Kd.N_lt (Kd.eN HO_13)) k_ hk_.2.1), (Kd.fresh' (Kd.N_lt (Kd.eN HO_304000)) k_ hk_.2.1), (Kd.freshB (g := gb303) (o := .cells #[.slice Ao8 t295.length co8, .int .i64 t298] 27 (0, 0)) (eB BK303) k_ hk_.2.1)⟩)) (below_size (eH HB))); have n4_ := bB BK303 hb; have n5_ := c' (below_step (eH HB) hb); clear HO_8; clear HO_13; clear HO_304000; clear BK303; clear HB; have HO_8 := n0_; have HO_13 := n1_; have HO_304000 := n2_; have HO326 := n3_; have BK303 := n4_; have HB := n5_; clear n0_ n1_ n2_ n3_ n4_ n5_; (try clear hb); (try clear hb2); (try clear hk); (try clear hi); (try clear ho0)) | ((with_reducible refine gate_dst (N := 17) rfl ?_); (try (refine gate_guard (by rfl) ?_; dsimp only)); refine box_event ?hg (N := 17) ?hd (cs := #[.slice none 0 0, .int .i64 0]) (t := 27) ?hr ?_; (case hd => rfl); (case hg => rfl); (case hr => go_simp <;> rfl); intro gb329 hg w53 hbox hb; have n0_ := c' (Kd.N_below (Kd.N_elderB (Kd.eN HO_8) gb329 (Nat.le_of_eq hg.symm)) hb); have n1_ := c' (Kd.N_below (Kd.N_elderB (Kd.eN HO_13) gb329 (Nat.le_of_eq hg.symm)) hb); have n2_ := c' (Kd.N_below (Kd.N_elderB (Kd.eN HO_304000) gb329 (Nat.le_of_eq hg.symm)) hb); have n3_ := c' (Kd.N_below (Kd.N_elderB (Kd.eN HO326) gb329 (Nat.le_of_eq hg.symm)) hb); have n4_ := bB BK303 hb; have n5_ := c' (below_step (eH HB) hb); have n6_ := c' (hbox); have n7_ := c' ((by rw [hg]; exact (below_size (eH HB)) : w.heap.size ≤ gb329)); have n8_ := c' ((by rw [hg]; exact (below_size (eH HB)) : w.heap.size ≤ gb329)); have n9_ := nL hg BK303; have n10_ := nG hg BK303; clear HO_8; clear HO_13; clear HO_304000; clear HO326; clear BK303; clear HB; have HO_8 := n0_; have HO_13 := n1_; have HO_304000 := n2_; have HO326 := n3_; have BK303 := n4_; have HB := n5_; have BK329 := n6_; have GW329 := n7_; have GE329 := n8_; have NB303_329 := n9_; have NB329_303 := n10_; clear n0_ n1_ n2_ n3_ n4_ n5_ n6_ n7_ n8_ n9_ n10_; clear hb hbox hg; obtain ⟨Ao54, co54, eo54⟩ := Kd.N_slice HO326.out; subst eo54; have hnb55 := NB329_303.out; have hnc55 := NB303_329.out; have hcz56_0 := bC BK329 0 (.slice none 0 0); have hcz56_1 := bC BK329 1 (.int .i64 0); have hfz56_0 := blk_frozen BK329.out 0; have hfz56_1 := blk_frozen BK329.out 1) | ((with_reducible refine gate_callee (f := 16) rfl ?_); refine gL 94 Try.func16 #[.agg #[.slice Ao54 t324.length co54, .int .i64 t327]] (h := ?_); (with_reducible refine (wal_Records.calls k3 _ _ t324 t327 t330 t333 _ ?side1 ?side2 A44.out).mono ?_); (case side1 => refine (Kd.N_reads' (e := 25) (base := w.heap.size) (ok := fun k_ => ((some k_ ≠ (.slice Ao26 t299.length co26 : Value).ownBlock ∧ (some k_ ≠ (.slice Ao51 x13_3.length co51 : Value).ownBlock ∧ (some k_ ≠ (.slice Ao8 t295.length co8 : Value).ownBlock ∧ k_ ≠ gb303))) ∧ k_ ≠ gb329)) (n := t324.length) (c := co54) ?_).2.2; exact (Kd.kN (a' (b' (p := ⟨gb329, 1, none⟩) (b' (p := ⟨gb329, 0, none⟩) (a' HO326.out (fun k_ hk => (⟨hk, hk.2⟩ : _ ∧ k_ ≠ gb329))) (fun _ hk => hk.2) (.slice Ao54 t324.length co54)) (fun _ hk => hk.2) (.int .i64 t327)) (fun _ h_ => h_.1)))); (case side2 => exact (Kd.N_reads' HO326.out).2.1); rintro e w57 ⟨v331, rfl, ho0, hb⟩; refine ⟨_, rfl, ?_⟩; have n0_ := c' (Kd.N_elder' (Kd.kN (a' (b' (p := ⟨gb329, 1, none⟩) (b' (p := ⟨gb329, 0, none⟩) (a' HO_8.out (fun k_ hk => (⟨hk, hk.2⟩ : _ ∧ k_ ≠ gb329))) (fun _ hk => hk.2) (.slice Ao54 t324.length co54)) (fun _ hk => hk.2) (.int .i64 t327)) (fun _ h_ => h_.1))) (Kd.N_base ho0) hb); have n1_ := c' (Kd.N_elder' (Kd.kN (a' (b' (p := ⟨gb329, 1, none⟩) (b' (p := ⟨gb329, 0, none⟩) (a' HO_13.out (fun k_ hk => (⟨hk, hk.2⟩ : _ ∧ k_ ≠ gb329))) (fun _ hk => hk.2) (.slice Ao54 t324.length co54)) (fun _ hk => hk.2) (.int .i64 t327)) (fun _ h_ => h_.1))) (Kd.N_base ho0) hb); have n2_ := c' (Kd.N_elder' (Kd.kN (a' (b' (p := ⟨gb329, 1, none⟩) (b' (p := ⟨gb329, 0, none⟩) (a' HO_304000.out (fun k_ hk => (⟨hk, hk.2⟩ : _ ∧ k_ ≠ gb329))) (fun _ hk => hk.2) (.slice Ao54 t324.length co54)) (fun _ hk => hk.2) (.int .i64 t327)) (fun _ h_ => h_.1))) (Kd.N_base ho0) hb); have n3_ := c' (Kd.N_elder' (Kd.kN (a' (b' (p := ⟨gb329, 1, none⟩) (b' (p := ⟨gb329, 0, none⟩) (a' HO326.out (fun k_ hk => (⟨hk, hk.2⟩ : _ ∧ k_ ≠ gb329))) (fun _ hk => hk.2) (.slice Ao54 t324.length co54)) (fun _ hk => hk.2) (.int .i64 t327)) (fun _ h_ => h_.1))) (Kd.N_base ho0) hb); have n4_ := c' (Kd.N_lower (a' (ok' := fun k_ => some k_ ≠ (.slice Ao26 t299.length co26 : Value).ownBlock ∧ some k_ ≠ (.slice Ao51 x13_3.length co51 : Value).ownBlock ∧ some k_ ≠ (.slice Ao8 t295.length co8 : Value).ownBlock ∧ some k_ ≠ (.slice Ao54 t324.length co54 : Value).ownBlock ∧ k_ ≠ gb303 ∧ k_ ≠ gb329) ho0 (fun k_ hk_ => ⟨(Kd.fresh' (Kd.N_lt (Kd.kN (a' (b' (p := ⟨gb329, 1, none⟩) (b' (p := ⟨gb329, 0, none⟩) (a' HO_8.out (fun k_ hk => (⟨hk, hk.2⟩ : _ ∧ k_ ≠ gb329))) (fun _ hk => hk.2) (.slice Ao54 t324.length co54)) (fun _ hk => hk.2) (.int .i64 t327)) (fun _ h_ => h_.1)))) k_ hk_), (Kd.fresh' (Kd.N_lt (Kd.kN (a' (b' (p := ⟨gb329, 1, none⟩) (b' (p := ⟨gb329, 0, none⟩) (a' HO_13.out (fun k_ hk => (⟨hk, hk.2⟩ : _ ∧ k_ ≠ gb329))) (fun _ hk => hk.2) (.slice Ao54 t324.length co54)) (fun _ hk => hk.2) (.int .i64 t327)) (fun _ h_ => h_.1)))) k_ hk_), (Kd.fresh' (Kd.N_lt (Kd.kN (a' (b' (p := ⟨gb329, 1, none⟩) (b' (p := ⟨gb329, 0, none⟩) (a' HO_304000.out (fun k_ hk => (⟨hk, hk.2⟩ : _ ∧ k_ ≠ gb329))) (fun _ hk => hk.2) (.slice Ao54 t324.length co54)) (fun _ hk => hk.2) (.int .i64 t327)) (fun _ h_ => h_.1)))) k_ hk_), (Kd.fresh' (Kd.N_lt (Kd.kN (a' (b' (p := ⟨gb329, 1, none⟩) (b' (p := ⟨gb329, 0, none⟩) (a' HO326.out (fun k_ hk => (⟨hk, hk.2⟩ : _ ∧ k_ ≠ gb329))) (fun _ hk => hk.2) (.slice Ao54 t324.length co54)) (fun _ hk => hk.2) (.int .i64 t327)) (fun _ h_ => h_.1)))) k_ hk_), (Kd.freshB (g := gb303) (o := .cells #[.slice Ao8 t295.length co8, .int .i64 t298] 27 (0, 0)) (by refine eK ?_; refine blk_far ?_ NB303_329.out _; refine eK ?_; refine blk_far ?_ NB303_329.out _; refine eK ?_; exact BK303.out) k_ hk_), (Kd.freshB (g := gb329) (o := .cells #[.slice Ao54 t324.length co54, .int .i64 t327] 27 (0, 0)) (by refine eK ?_; refine blk_put (cs := #[.slice Ao54 t324.length co54, .int .i64 0]) ?_ 1 _ rfl; refine eK ?_; refine blk_put (cs := #[.slice none 0 0, .int .i64 0]) ?_ 0 _ rfl; refine eK ?_; exact BK329.out) k_ hk_)⟩)) (below_size (eH HB))); have n5_ := c' (blk_below (g := gb303) (o := .cells #[.slice Ao8 t295.length co8, .int .i64 t298] 27 (0, 0)) (by refine eK ?_; refine blk_far ?_ NB303_329.out _; refine eK ?_; refine blk_far ?_ NB303_329.out _; refine eK ?_; exact BK303.out) hb); have n6_ := c' (blk_below (g := gb329) (o := .cells #[.slice Ao54 t324.length co54, .int .i64 t327] 27 (0, 0)) (by refine eK ?_; refine blk_put (cs := #[.slice Ao54 t324.length co54, .int .i64 0]) ?_ 1 _ rfl; refine eK ?_; refine blk_put (cs := #[.slice none 0 0, .int .i64 0]) ?_ 0 _ rfl; refine eK ?_; exact BK329.out) hb); have n7_ := c' (below_step (eH HB) hb); clear HO_8; clear HO_13; clear HO_304000; clear HO326; clear BK303; clear BK329; clear HB; have HO_8 := n0_; have HO_13 := n1_; have HO_304000 := n2_; have HO326 := n3_; have HO332 := n4_; have BK303 := n5_; have BK329 := n6_; have HB := n7_; clear n0_ n1_ n2_ n3_ n4_ n5_ n6_ n7_; (try clear hb); (try clear hb2); (try clear hk); (try clear hi); (try clear ho0)) | ((with_reducible refine gate_callee (f := 14) rfl ?_); refine gL 98 Try.func14 #[.int .i64 t328] (h := ?_); (with_reducible refine (fanlightlaw06_num.calls t328 t334 _ A45.out).mono ?_); rintro e w' ⟨rfl, ⟨nd, rfl⟩⟩; refine ⟨_, rfl, ?_⟩) | ((with_reducible refine gate_callee (f := 14) rfl ?_); refine gL 100 Try.func14 #[.int .i64 t333] (h := ?_); (with_reducible refine (fanlightlaw06_num.calls t333 t335 _ A46.out).mono ?_); rintro e w' ⟨rfl, ⟨nd, rfl⟩⟩; refine ⟨_, rfl, ?_⟩; have hcz58_0 := bC BK329 0 (.slice Ao54 t324.length co54); have hcz58_1 := bC BK329 1 (.int .i64 t327); have hfz58_0 := blk_frozen BK329.out 0; have hfz58_1 := blk_frozen BK329.out 1; have hcz59_0 := bC BK303 0 (.slice Ao8 t295.length co8); have hcz59_1 := bC BK303 1 (.int .i64 t298); have hfz59_0 := blk_frozen BK303.out 0; have hfz59_1 := blk_frozen BK303.out 1; obtain ⟨Ao60, co60, eo60⟩ := Kd.N_slice HO332.out; subst eo60) | (go_at_call 20; (with_reducible refine (fanlightlaw06_same.calls k3 _ _ t330 _ _ t299 t336 _ ?side1 ?side2 ?side3 ?side4 A49.out).mono ?_); (case side1 => exact Kd.kC (Kd.N_reads' HO332.out).2.2); (case side2 => exact (Kd.N_reads' HO332.out).2.1); (case side3 => exact Kd.kC (Kd.N_reads' HO_8.out).2.2); (case side4 => exact (Kd.N_reads' HO_8.out).2.1); rintro e w' ⟨rfl, ⟨nd, rfl⟩⟩))
            go_ret
            exact ⟨eE, eH HB⟩
           ·
            rw [if_neg c48] at H
            have c48b0 := beq_eq_false_iff_ne.mpr c48
            have c48b1 := bne_iff_ne.mpr c48
            obtain rfl := Option.some.inj H
            cases hT
          ·
           rw [if_neg c47] at H
           have c47b0 := beq_eq_false_iff_ne.mpr c47
           have c47b1 := bne_iff_ne.mpr c47
           obtain rfl := Option.some.inj H
           cases hT
end Go.Proofs.Ytgmkgobapeencaa.S
