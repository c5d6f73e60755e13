import Derived.Test.YtkdaeleolomdkaaYD0
import Derived.Test.YtkdaeleolomdkaaYD9
namespace Go.Proofs.Ytkdaeleolomdkaa.D
open Go.RowKit Go.Proofs.YtkdaeleolomdkaaW.PrintWords Go.Proofs.YtkdaeleolomdkaaW.PrintLast Go.Proofs.YtkdaeleolomdkaaW.PrintMore
attribute [local go_sem] max2_int min2_int max_two min_two max_three min_three max_four min_four   -- for this text's walks alone
set_option linter.unusedVariables false
set_option linter.unusedSimpArgs false
def disk_padN (n : Nat) : Nat := 48 * ((n + 47) / 48)
def disk_Padded.f (l0 : List Int) : Option (List Int) := if l0.length ≤ 1099511627776 then some (l0 ++ List.replicate (disk_padN l0.length - l0.length) 0) else none
set_option maxRecDepth 100000 in
set_option maxHeartbeats 2000000 in
theorem disk_Padded.calls (A0 : Option Addr) (c0 : Nat) (l0 : List Int) (r : List Int) (w : World) (hr0 : Kd.C (Kd.int .u8) w A0 l0.length l0) (hc0 : l0.length ≤ c0) (h : disk_Padded.f l0 = some r) :
  Calls Try.prog 52 #[.slice A0 l0.length c0] w fun e w' => ∃ v0_ : Value, e = .returned (v0_) ∧ Kd.R (Kd.int .u8) 5 w' w.heap.size (fun _ => True) v0_ r ∧ Below w.heap.size w w' := by
 unfold disk_Padded.f at h
 split at h
 case isFalse => cases h
 rename_i hl
 injection h with h
 subst h
 obtain ⟨n, hn⟩ : ∃ n, l0.length = n := ⟨_, rfl⟩
 rw [hn] at hr0 hl
 have HR := Aside0.mk hr0
 have HN := Lib.hid hn
 obtain ⟨p, hp⟩ : ∃ p, disk_padN n = p := ⟨_, rfl⟩
 have hpn : n ≤ p := by rw [← hp]; unfold disk_padN; omega
 have hpb : p ≤ 1099511627900 := by rw [← hp]; unfold disk_padN; omega
 have hq : disk_sectors.f (n : Int) = some (((n + 47) / 48 : Nat) : Int) := by
  unfold disk_sectors.f
  have e1 : wrap64 ((n : Int) + 48) = (n : Int) + 48 := by unfold wrap64; omega
  rw [e1]
  have e2 : wrap64 ((n : Int) + 48 - 1) = ((n + 47 : Nat) : Int) := by unfold wrap64; omega
  have e3 : Int.tdiv ((n + 47 : Nat) : Int) 48 = (((n + 47) / 48 : Nat) : Int) := (Int.ofNat_tdiv (n + 47) 48).symm
  rw [e2, e3]
  congr 1
  unfold wrap64
  omega
 have hm : wrap64 (48 * (((n + 47) / 48 : Nat) : Int)) = (p : Int) := by rw [← hp]; unfold wrap64 disk_padN; omega
 have HS := Aside0.mk (fun (W : World) => disk_sectors.calls (n : Int) _ W hq)
 obtain ⟨q, hqq⟩ : ∃ q : Nat, (n + 47) / 48 = q := ⟨_, rfl⟩
 rw [hqq] at HS hm
 have hqb : q ≤ 1099511627776 := by omega
 have HP := Lib.hid hp
 have hm2 : (48 : Int) * (q : Int) = (p : Int) := by rw [← hp, ← hqq]; unfold disk_padN; omega
 rw [hn]
 clear hr0 hc0 hn hq hm hqq hp
 go_enter Try.func52, Try.ntmps52
 go_wp2_with fail
 refine (HS.out _).mono ?_
 rintro e wA ⟨rfl, hd⟩
 have hbA : Below w.heap.size w wA := by
  obtain ⟨nd, rfl⟩ := hd
  exact pw_below_drewN (Below.refl _ _) nd
 have HB := Aside0.mk hbA
 clear hd hbA
 go_upto_region 2 with (((with_reducible refine gate_dst (N := 8) rfl ?_); refine Kd.R_make (Kd.int .u8) (w0 := w) w.heap.size 5 rfl (N := 8) rfl 22 _ _ rfl (p : Int) rfl rfl Try.underlying22 (.int .u8 0) 1 info5 rfl (by decide) (by omega) 0 (ok := fun _ => True) (okp := fun _ => True) rfl (fun _ hk => hk) trivial (by omega) (by omega) HB.out (below_size HB.out) ?_; intro v8 w3 ho4 hb hg_ hnew_; clear hg_ hnew_; simp only [Int.toNat_natCast] at ho4; have HO := Aside0.mk ho4; have HB3 := Aside0.mk hb; clear ho4 hb))
 go_wp2_with (((with_reducible refine gate_builtin (b := .copy) (xs := #[.tmp 9, .tmp 10]) rfl ?_); refine Kd.R_copy (0 : Int) (w0 := w) w.heap.size rfl (.tmp 9) (.tmp 10) 22 22 5 rfl Try.underlying22 (by kernel_rfl) v8 (List.replicate p 0) l0 A0 n c0 (fun _ => True) rfl rfl HO.out (Kd.C_below HR.out HB3.out) HB3.out (below_size HB3.out) ?_; intro w4 ho hb hg_; have HO4 := Aside0.mk ho; have HB4 := Aside0.mk hb; clear ho hb hg_))
 go_ret
 refine ⟨_, rfl, ?_, HB4.out⟩
 have h := HO4.out
 rw [List.length_replicate, Nat.min_eq_left hpn, List.take_of_length_le (by rw [HN.out]; exact Nat.le_refl _), List.drop_replicate] at h
 rw [HP.out]
 exact h
end Go.Proofs.Ytkdaeleolomdkaa.D
