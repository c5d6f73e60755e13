import Derived.Test.YtleofbidijbahaaYD0
import Derived.Test.YtleofbidijbahaaYD21
namespace Go.Proofs.Ytleofbidijbahaa.D
open Go.RowKit Go.Proofs.YtleofbidijbahaaW.PrintWords Go.Proofs.YtleofbidijbahaaW.PrintLast Go.Proofs.YtleofbidijbahaaW.PrintMore
attribute [local go_sem] max2_int min2_int max_two min_two max_three min_three max_four min_four   -- for this text's walks alone
set_option linter.unusedVariables false
set_option linter.unusedSimpArgs false
theorem R_open {α : Type} {d : Kd α} {e base : Nat} {ok : Nat → Prop} {w : World} {v : Value} {xs : List α} (hE : d.E = []) (h : d.R e w base ok v xs) : ∃ inner, w.ownsRow base e d.sz v xs.length inner ∧ Reps (d.M w base (fun _ => False)) d.sz xs inner := by
 obtain ⟨h0, inner, ho, hr⟩ := h
 refine ⟨inner, ho, hr.imp_ (fun p c hp => d.M_mono (fun k hk => ?_) (d.M_bound hp))⟩
 obtain ⟨_, _, _, q, hq, _⟩ := hk
 rw [hE] at hq
 cases hq
theorem R_close {α : Type} {d : Kd α} {e base : Nat} {ok : Nat → Prop} {w w' : World} {v : Value} {xs : List α} {inner : List Value} (h0 : ∀ k, v.ownBlock = some k → ok k) (ho : w'.ownsRow base e d.sz v xs.length inner) (hr : Reps (d.M w base (fun _ => False)) d.sz xs inner) : d.R e w' base ok v xs :=
 ⟨h0, inner, ho, hr.imp_ (fun p c hp => d.M_mono (fun _ hk => hk.elim) (d.M_move (fun _ hk => hk.elim) hp))⟩
theorem Reps.ins_ {α : Type} {R : α → List Value → Prop} {size : Nat} {xs : List α} {cs vs : List Value} {a : α} {i : Nat} (h : Reps R size xs cs) (ha : R a vs) (hv : vs.length = size) (hi : i ≤ xs.length) : Reps R size (xs.take i ++ a :: xs.drop i) (cs.take (i * size) ++ vs ++ cs.drop (i * size)) := by
 obtain ⟨hl, hr⟩ := h
 have hle : i * size ≤ cs.length := by rw [hl]; exact Nat.mul_le_mul_right _ hi
 have htl : (cs.take (i * size)).length = i * size := by rw [List.length_take, Nat.min_eq_left hle]
 have hts : (xs.take i).length = i := by rw [List.length_take, Nat.min_eq_left hi]
 refine ⟨?_, fun j p hj => ?_⟩
 ·
  simp only [List.length_append, List.length_cons, htl, hts, hv, List.length_drop, hl]
  rw [Nat.add_mul, Nat.add_mul, Nat.one_mul, Nat.sub_mul]
  omega
 ·
  rcases Nat.lt_trichotomy j i with hlt | rfl | hgt
  ·
   rw [List.getElem?_append_left (by omega), List.getElem?_take, if_pos hlt] at hj
   have hfit : j * size + size ≤ i * size := by rw [← Nat.succ_mul]; exact Nat.mul_le_mul_right _ hlt
   have := hr j p hj
   rw [List.append_assoc, List.drop_append_of_le_length (by omega), List.take_append_of_le_length (by rw [List.length_drop]; omega), List.drop_take, List.take_take, Nat.min_eq_left (by omega)]
   exact this
  ·
   rw [List.getElem?_append_right (by omega), hts, Nat.sub_self] at hj
   injection hj with hj
   subst hj
   rw [List.append_assoc, List.drop_append_of_le_length (by omega), List.drop_eq_nil_of_le (by omega), List.nil_append, List.take_append_of_le_length (by omega), List.take_of_length_le (by omega)]
   exact ha
  ·
   obtain ⟨m, rfl⟩ : ∃ m, j = i + 1 + m := ⟨j - (i + 1), by omega⟩
   rw [List.getElem?_append_right (by omega), hts, show i + 1 + m - i = m + 1 by omega, List.getElem?_cons_succ, List.getElem?_drop] at hj
   have := hr (i + m) p hj
   have e1 : (i + 1 + m) * size = i * size + size + m * size := by rw [Nat.add_mul, Nat.add_mul, Nat.one_mul]
   rw [e1, List.drop_append, List.length_append, htl, hv, List.drop_eq_nil_of_le (by rw [List.length_append, htl, hv]; omega), List.nil_append, show i * size + size + m * size - (i * size + size) = m * size by omega, List.drop_drop, ← Nat.add_mul]
   exact this
theorem insI_is (v : Value) (xs : List Int) (i : Nat) (a : Int) (vb base : Nat) (ok : Nat → Prop) (w : World) (hR : Kd.R (Kd.int .i64) 3 w base ok v xs) (hvb : w.heap[vb]? = some (.cells #[.int .i64 a] 3 (0, 0))) (hne : some vb ≠ v.ownBlock) (hi : i ≤ xs.length) (hl : xs.length < 1000000000) (hbase : base ≤ w.heap.size) :
  Calls Try.prog 90 #[v, .int .i64 i, .slice (some ⟨vb, 0, none⟩) 1 1] w fun e w' => ∃ v', e = .returned v' ∧ Kd.R (Kd.int .i64) 3 w' base (fun k => ok k ∨ (w.heap.size ≤ k ∧ k < w'.heap.size)) v' (xs.take i ++ a :: xs.drop i) ∧ w.grownBy w' v.ownBlock := by
 obtain ⟨cs, ho, hr⟩ := R_open rfl hR
 have h1c : ∀ u ∈ cs, u.oneCell' = true := Kd.reps_one hr (by decide) (fun p c hp => (Kd.int .i64).K_one ((Kd.int .i64).K_of_M hp))
 have hri := Reps.ins_ (i := i) (vs := [.int .i64 a]) hr (show (Kd.int .i64).M w base (fun _ => False) a [.int .i64 a] from rfl) rfl hi
 rw [show (Kd.int .i64).sz = 1 from rfl, Nat.mul_one] at hri
 have hlen : (xs.take i ++ a :: xs.drop i).length = xs.length + 1 := by simp only [List.length_append, List.length_cons, List.length_take, List.length_drop]; omega
 rcases Nat.lt_or_ge i xs.length with hlt | hge
 ·
  obtain ⟨b, c, rfl, -, -⟩ := ho.form (by omega)
  by_cases hroom : xs.length + 1 ≤ c
  ·
   refine (insI_shift b xs.length c i vb base cs [.int .i64 a] w ho hlt hroom hvb (fun he => hne (by rw [he]; simp [Value.ownBlock])) rfl (fun u hu => by rw [List.mem_singleton.1 hu]; rfl) h1c).mono ?_
   rintro e w' ⟨rfl, ho', hg⟩
   rw [← hlen] at ho' ⊢
   exact ⟨_, rfl, R_close (fun k hk => .inl (hR.1 k (by simpa [Value.ownBlock] using hk))) ho' hri, by simpa [Value.ownBlock] using hg⟩
  ·
   refine (insI_grow b xs.length c i vb base cs [.int .i64 a] w ho hlt (by omega) hvb rfl (fun u hu => by rw [List.mem_singleton.1 hu]; rfl) h1c hl hbase).mono ?_
   rintro e w' ⟨v', rfl, ho', hg, hb⟩
   rw [← hlen] at ho'
   exact ⟨_, rfl, R_close (fun k hk => .inr (by rw [hb] at hk; injection hk with hk; subst hk; exact ⟨Nat.le_refl _, own_lt ho' _ hb⟩)) ho' hri, ⟨hg.os, hg.tape, hg.output, hg.size, fun k hk _ => hg.block k hk (by simp)⟩⟩
 ·
  obtain rfl : i = xs.length := by omega
  refine (insI_end v xs.length vb base cs [.int .i64 a] w ho hvb rfl (fun u hu => by rw [List.mem_singleton.1 hu]; rfl) hl hbase).mono ?_
  rintro e w' ⟨v', rfl, ho', hg, hb⟩
  have hcl : cs.length = xs.length * 1 := hr.1
  rw [← hlen] at ho'
  refine ⟨_, rfl, R_close (w := w) (fun k hk => ?_) ho' ?_, hg⟩
  ·
   rcases hb with hb | hb
   ·
    exact .inl (hR.1 k (hb ▸ hk))
   ·
    exact .inr (by rw [hb] at hk; injection hk with hk; subst hk; exact ⟨Nat.le_refl _, own_lt ho' _ hb⟩)
  ·
   have e1 : cs.take xs.length = cs := List.take_of_length_le (by omega)
   have e2 : cs.drop xs.length = [] := List.drop_eq_nil_of_le (by omega)
   rw [e1, e2, List.append_nil] at hri
   exact hri
theorem insA_is (v : Value) (xs : List S68) (i : Nat) (a : S68) (vb base : Nat) (ok : Nat → Prop) (w : World) (hR : Kd.R k68 68 w base ok v xs) (hvb : w.heap[vb]? = some (.cells #[.string a.f0, .string a.f1] 68 (0, 0))) (hne : some vb ≠ v.ownBlock) (hi : i ≤ xs.length) (hl : xs.length < 1000000000) (hbase : base ≤ w.heap.size) :
  Calls Try.prog 95 #[v, .int .i64 i, .slice (some ⟨vb, 0, none⟩) 1 1] w fun e w' => ∃ v', e = .returned v' ∧ Kd.R k68 68 w' base (fun k => ok k ∨ (w.heap.size ≤ k ∧ k < w'.heap.size)) v' (xs.take i ++ a :: xs.drop i) ∧ w.grownBy w' v.ownBlock := by
 obtain ⟨cs, ho, hr⟩ := R_open rfl hR
 have h1c : ∀ u ∈ cs, u.oneCell' = true := Kd.reps_one hr (by decide) (fun p c hp => k68.K_one (k68.K_of_M hp))
 have hri := Reps.ins_ (i := i) (vs := [.string a.f0, .string a.f1]) hr (show k68.M w base (fun _ => False) a [.string a.f0, .string a.f1] from k68_mkM w base (fun _ => False) a) rfl hi
 rw [show k68.sz = 2 from rfl] at hri
 have hlen : (xs.take i ++ a :: xs.drop i).length = xs.length + 1 := by simp only [List.length_append, List.length_cons, List.length_take, List.length_drop]; omega
 rcases Nat.lt_or_ge i xs.length with hlt | hge
 ·
  obtain ⟨b, c, rfl, -, -⟩ := ho.form (by omega)
  by_cases hroom : xs.length + 1 ≤ c
  ·
   refine (insA_shift b xs.length c i vb base cs [.string a.f0, .string a.f1] w ho hlt hroom hvb (fun he => hne (by rw [he]; simp [Value.ownBlock])) rfl (fun u hu => by rcases List.mem_cons.1 hu with rfl | hu; rfl; rw [List.mem_singleton.1 hu]; rfl) h1c).mono ?_
   rintro e w' ⟨rfl, ho', hg⟩
   rw [← hlen] at ho' ⊢
   exact ⟨_, rfl, R_close (fun k hk => .inl (hR.1 k (by simpa [Value.ownBlock] using hk))) ho' hri, by simpa [Value.ownBlock] using hg⟩
  ·
   refine (insA_grow b xs.length c i vb base cs [.string a.f0, .string a.f1] w ho hlt (by omega) hvb rfl (fun u hu => by rcases List.mem_cons.1 hu with rfl | hu; rfl; rw [List.mem_singleton.1 hu]; rfl) h1c hl hbase).mono ?_
   rintro e w' ⟨v', rfl, ho', hg, hb⟩
   rw [← hlen] at ho'
   exact ⟨_, rfl, R_close (fun k hk => .inr (by rw [hb] at hk; injection hk with hk; subst hk; exact ⟨Nat.le_refl _, own_lt ho' _ hb⟩)) ho' hri, ⟨hg.os, hg.tape, hg.output, hg.size, fun k hk _ => hg.block k hk (by simp)⟩⟩
 ·
  obtain rfl : i = xs.length := by omega
  refine (insA_end v xs.length vb base cs [.string a.f0, .string a.f1] w ho hvb rfl (fun u hu => by rcases List.mem_cons.1 hu with rfl | hu; rfl; rw [List.mem_singleton.1 hu]; rfl) hl hbase).mono ?_
  rintro e w' ⟨v', rfl, ho', hg, hb⟩
  have hcl : cs.length = xs.length * 2 := hr.1
  rw [← hlen] at ho'
  refine ⟨_, rfl, R_close (w := w) (fun k hk => ?_) ho' ?_, hg⟩
  ·
   rcases hb with hb | hb
   ·
    exact .inl (hR.1 k (hb ▸ hk))
   ·
    exact .inr (by rw [hb] at hk; injection hk with hk; subst hk; exact ⟨Nat.le_refl _, own_lt ho' _ hb⟩)
  ·
   have e1 : cs.take (xs.length * 2) = cs := List.take_of_length_le (by omega)
   have e2 : cs.drop (xs.length * 2) = [] := List.drop_eq_nil_of_le (by omega)
   rw [e1, e2, List.append_nil] at hri
   exact hri
end Go.Proofs.Ytleofbidijbahaa.D
