/- Layer 15, walked: a cutter's text. -/
import Derived.Test.YtckaohkhknoocaaDictCutter
import Derived.Test.YtckaohkhknoocaaDictGetP
set_option linter.unusedVariables false
set_option linter.unusedSimpArgs false
namespace Go.Proofs.Ytckaohkhknoocaa
open Go.RowKit
theorem Reads.other {w w' : World} {size n g : Nat} {A : Option Addr} {xs : List Value} (h : Reads w w.heap.size size A n xs) (hg : w.grownBy w' (some g)) (hne : 0 < n → ∀ ad, A = some ad → ad.block ≠ g) : Reads w' w'.heap.size size A n xs := by
  refine ⟨h.1, fun hn => ?_⟩
  obtain ⟨ad, e, h1, h2⟩ := h.2 hn
  refine ⟨ad, e, Nat.lt_of_lt_of_le h1 hg.size, fun j u hu => ?_⟩
  exact hg.cell (h2 j u hu) (by rw [block_of_add]; simpa using hne hn ad e)
theorem i64_wrap (x : Int) (h1 : -9223372036854775808 ≤ x) (h2 : x ≤ 9223372036854775807) : IntKind.i64.wrap x = x := by
  simp only [IntKind.wrap, IntKind.signed, IntKind.bits]
  simp
  omega
/-- A text was taken, or was not. -/
def TakenT (g : Nat) (A : Option Addr) (l c at' : Nat) (r : Except Nat (ByteArray × Nat)) (w : World) (e : Ending) (w' : World) : Prop :=
  w.grownBy w' (some g) ∧ match r with
    | .error k => e = .returned (.string ⟨#[]⟩) ∧ ∃ at2, at2 ≤ l ∧ Cut w' g A l c at2 k
    | .ok (s, n) => e = .returned (.string s) ∧ Cut w' g A l c (at' + n) 0
theorem takenT_err {g : Nat} {A : Option Addr} {l c at' k at2 : Nat} {r : Except Nat (ByteArray × Nat)} {w w' : World} (hr : r = .error k) (h1 : w.grownBy w' (some g)) (h2 : at2 ≤ l) (h3 : Cut w' g A l c at2 k) : TakenT g A l c at' r w (.returned (.string ⟨#[]⟩)) w' := by
  subst hr
  exact ⟨h1, rfl, at2, h2, h3⟩
set_option maxRecDepth 100000 in
set_option maxHeartbeats 400000 in
theorem ctext_err (g : Nat) (A : Option Addr) (l c at' e : Nat) (most : Int) (w : World) (hb : Cut w g A l c at' e) (he : e ≠ 0) :
    Calls Try.prog 37 #[.pointer (some ⟨g, 0, none⟩), .int .i64 most] w fun e' w' => e' = .returned (.string ⟨#[]⟩) ∧ w = w' := by
  have c2 := hb.cell 2
  have hn : ((e : Int) == 0) = false := by simp; omega
  have hn2 : ((e : Int) != 0) = true := by simp; omega
  go_enter Try.func37, Try.ntmps37
  go_wp2_with fail
  with_reducible refine (cnum_err g A l c at' e _ hb he).mono ?_
  rintro e w' ⟨rfl, rfl⟩
  clear hb he
  go_wp2
  go_ret
  exact ⟨rfl, rfl⟩
set_option maxRecDepth 100000 in
set_option maxHeartbeats 1000000 in
theorem ctext_any (g : Nat) (A : Option Addr) (l c at' : Nat) (xs : List UInt8) (most : Int) (w : World) (hb : Cut w g A l c at' 0) (hr : Reads w w.heap.size 1 A l (u8s xs)) (hl : l ≤ c) (hc : c ≤ maxLen) (hat : at' ≤ l) (hg : 0 < l → ∀ ad, A = some ad → ad.block ≠ g) (hm : most ≤ 9223372036854775807) :
    Calls Try.prog 37 #[.pointer (some ⟨g, 0, none⟩), .int .i64 most] w (TakenT g A l c at' (takeT most (xs.drop at')) w) := by
  have hgs := get_size (xs.drop at')
  have hrl := reads_len hr
  rw [List.length_drop, hrl] at hgs
  have Hrl := Lib.hid hrl
  clear hrl
  go_enter Try.func37, Try.ntmps37
  go_wp2_with fail
  with_reducible refine (cnum_any g A l c at' xs _ hb hr hl hc hat).mono ?_
  rintro e w1 ⟨rfl, hb1, hg1⟩
  have hr1 := hr.other hg1 hg
  have htk : takeT most (xs.drop at') = takeT most (xs.drop at') := rfl
  conv at htk => rhs; unfold takeT
  rw [List.length_drop, Hrl.out] at htk
  generalize get (xs.drop at') = r at hgs hb1 htk ⊢
  obtain ⟨rn, rk, re⟩ := r
  obtain ⟨hk1, hk2, hk3⟩ := hgs
  simp only at hk1 hk2 hk3 hb1 htk ⊢
  have hq : at' + rk ≤ l := by omega
  rw [show l - at' - rk = l - (at' + rk) from by omega] at htk
  generalize hqq : at' + rk = q at hb1 hq htk
  have Hqq := Lib.hid hqq
  clear hqq
  have c2 := hb1.cell 2
  have f2 := hb1.frozen 2
  have hb1s := fun u => hb1.set_ 2 u
  by_cases hre : re = 0
  · subst hre
    rw [if_neg (by simp)] at htk
    by_cases hlim : most < 0 ∨ most < (rn : Int)
    · rw [if_pos hlim] at htk
      have Htk := Lib.hid htk
      have Hb1 := Lib.hid hb1
      have Hb1s := Lib.hid hb1s
      clear htk hk3 hb1 hb1s
      rcases hlim with h | h
      · go_wp2
        go_ret
        exact takenT_err Htk.out (hg1.trans (grown_set w1 g 2 _)) hq (Hb1s.out _)
      · by_cases hm0 : most < 0
        · go_wp2
          go_ret
          exact takenT_err Htk.out (hg1.trans (grown_set w1 g 2 _)) hq (Hb1s.out _)
        · obtain ⟨mo, rfl⟩ := Int.eq_ofNat_of_zero_le (by omega : 0 ≤ most)
          go_wp2
          go_ret
          exact takenT_err Htk.out (hg1.trans (grown_set w1 g 2 _)) hq (Hb1s.out _)
    · rw [if_neg hlim] at htk
      obtain ⟨mo, rfl⟩ := Int.eq_ofNat_of_zero_le (by omega : 0 ≤ most)
      have hmo : rn ≤ mo := by omega
      have c0 := hb1.cell 0
      have c1 := hb1.cell 1
      have hL0 : ∀ w', w' = w1.drew → w'.cell? ⟨g, 0, none⟩ = some (.slice A l c) := fun w' h => by rw [h]; exact c0
      have hL1 : ∀ w', w' = w1.drew → w'.cell? ⟨g, 1, none⟩ = some (.int .i64 (q : Int)) := fun w' h => by rw [h]; exact c1
      have HL0 := Lib.hid hL0
      have HL1 := Lib.hid hL1
      have hl63 : l ≤ 9223372036854775807 := by unfold maxLen at hc; omega
      have hsub : IntKind.i64.wrap ((l : Int) - (q : Int)) = ((l - q : Nat) : Int) := by rw [i64_wrap _ (by omega) (by omega)]; omega
      have hsub2 := u64_wrap (l - q) (by omega)
      have Hsub := Lib.hid hsub
      have Hsub2 := Lib.hid hsub2
      clear hlim hk3 hL0 hL1 c0 c1 hsub hsub2
      by_cases hlen : l - q < rn
      · rw [if_pos hlen] at htk
        have Htk := Lib.hid htk
        have Hb1 := Lib.hid hb1
        have Hb1s := Lib.hid hb1s
        have db : decide (l - q < rn) = true := by simp; omega
        clear htk hb1 hb1s
        go_wp2
        have hS : w1.drew = w1.drew := rfl
        refine wp_region_keep (fun w' => w' = w1.drew) [(0, false), (1, false), (2, false), (3, false), (4, false), (5, false), (6, false), (7, false), (8, false), (9, false), (10, false), (11, false), (12, false), (13, false)] (by kernel_rfl) (by kernel_rfl) (by kernel_rfl) (fun d _ _ _ _ h => by cases d <;> exact h) ?_
        refine held_pure (v := ?_) rfl rfl (by simp [Region.wanted, yielded]) hS ?_ ?_
        rotate_left
        · intro w hw; go_simp; try with_reducible rfl
        try simp only [Act.put, List.setIfInBounds_toArray, List.set_cons_succ, List.set_cons_zero]
        refine held_pure (v := ?_) rfl rfl (by simp [Region.wanted, yielded]) hS ?_ ?_
        rotate_left
        · intro w hw; go_simp; try with_reducible rfl
        try simp only [Act.put, List.setIfInBounds_toArray, List.set_cons_succ, List.set_cons_zero]
        refine held_pure (v := ?_) rfl rfl (by simp [Region.wanted, yielded]) hS ?_ ?_
        rotate_left
        · intro w hw; go_simp; try with_reducible rfl
        try simp only [Act.put, List.setIfInBounds_toArray, List.set_cons_succ, List.set_cons_zero]
        refine held_pure (v := ?_) rfl rfl (by simp [Region.wanted, yielded]) hS ?_ ?_
        rotate_left
        · intro w hw; go_simp; try with_reducible rfl
        try simp only [Act.put, List.setIfInBounds_toArray, List.set_cons_succ, List.set_cons_zero]
        refine held_pure (v := ?_) rfl rfl (by simp [Region.wanted, yielded]) hS ?_ ?_
        rotate_left
        · intro w hw; have c0 := HL0.out w hw; clear hw; go_simp; try with_reducible rfl
        try simp only [Act.put, List.setIfInBounds_toArray, List.set_cons_succ, List.set_cons_zero]
        refine held_pure (v := ?_) rfl rfl (by simp [Region.wanted, yielded]) hS ?_ ?_
        rotate_left
        · intro w hw; go_simp; try with_reducible rfl
        try simp only [Act.put, List.setIfInBounds_toArray, List.set_cons_succ, List.set_cons_zero]
        refine held_pure (v := ?_) rfl rfl (by simp [Region.wanted, yielded]) hS ?_ ?_
        rotate_left
        · intro w hw; go_simp; try with_reducible rfl
        try simp only [Act.put, List.setIfInBounds_toArray, List.set_cons_succ, List.set_cons_zero]
        refine held_pure (v := ?_) rfl rfl (by simp [Region.wanted, yielded]) hS ?_ ?_
        rotate_left
        · intro w hw; go_simp; try with_reducible rfl
        try simp only [Act.put, List.setIfInBounds_toArray, List.set_cons_succ, List.set_cons_zero]
        refine held_pure (v := ?_) rfl rfl (by simp [Region.wanted, yielded]) hS ?_ ?_
        rotate_left
        · intro w hw; go_simp; try with_reducible rfl
        try simp only [Act.put, List.setIfInBounds_toArray, List.set_cons_succ, List.set_cons_zero]
        refine held_pure (v := ?_) rfl rfl (by simp [Region.wanted, yielded]) hS ?_ ?_
        rotate_left
        · intro w hw; have c0 := HL1.out w hw; clear hw; go_simp; try with_reducible rfl
        try simp only [Act.put, List.setIfInBounds_toArray, List.set_cons_succ, List.set_cons_zero]
        refine held_pure (v := ?_) rfl rfl (by simp [Region.wanted, yielded]) hS ?_ ?_
        rotate_left
        · intro w hw; go_simp; try with_reducible rfl
        try simp only [Act.put, List.setIfInBounds_toArray, List.set_cons_succ, List.set_cons_zero]
        rw [Hsub.out]
        refine held_pure (v := ?_) rfl rfl (by simp [Region.wanted, yielded]) hS ?_ ?_
        rotate_left
        · intro w hw; go_simp; try with_reducible rfl
        try simp only [Act.put, List.setIfInBounds_toArray, List.set_cons_succ, List.set_cons_zero]
        rw [Hsub2.out]
        refine held_pure (v := ?_) rfl rfl (by simp [Region.wanted, yielded]) hS ?_ ?_
        rotate_left
        · intro w hw; go_simp; try with_reducible rfl
        try simp only [Act.put, List.setIfInBounds_toArray, List.set_cons_succ, List.set_cons_zero]
        refine held_pure (v := ?_) rfl rfl (by simp [Region.wanted, yielded]) hS ?_ ?_
        rotate_left
        · intro w hw; go_simp; try with_reducible rfl
        try simp only [Act.put, List.setIfInBounds_toArray, List.set_cons_succ, List.set_cons_zero]
        refine held_end ?_
        clear hS
        go_wp2
        go_ret
        exact takenT_err Htk.out (hg1.trans ((grown_drew w1 _).trans (grown_set w1.drew g 2 _))) hq ((Hb1s.out _).drew)
      · rw [if_neg hlen] at htk
        have Htk := Lib.hid htk
        have Hb1 := Lib.hid hb1
        have db : decide (l - q < rn) = false := by simp; omega
        have hn63 : rn ≤ 9223372036854775807 := by omega
        have hwn : IntKind.i64.wrap (rn : Int) = (rn : Int) := i64_wrap _ (by omega) (by omega)
        obtain ⟨en, hen⟩ : ∃ en, en = q + rn := ⟨_, rfl⟩
        have hwa : IntKind.i64.wrap ((q : Int) + (rn : Int)) = (en : Int) := by rw [i64_wrap _ (by omega) (by omega)]; omega
        have hqe : q ≤ en := by omega
        have hec : en ≤ c := by omega
        have hel : en - q ≤ l - q := by omega
        have hcut := hr1.cut (k := q) (cap := c) hq hl
        rw [Nat.mul_one, u8s_drop] at hcut
        have hhead := hcut.head (k := en - q) hel
        rw [Nat.mul_one, u8s_take] at hhead
        have htxt : txt ((xs.drop q).take (en - q)) = txt (((xs.drop at').drop rk).take rn) := by
          rw [List.drop_drop, Hqq.out, hen, Nat.add_sub_cancel_left]
        have Htxt := Lib.hid htxt
        have Hen := Lib.hid hen
        have Hwn := Lib.hid hwn
        have Hwa := Lib.hid hwa
        clear htk hb1 hwn hwa hb1s htxt hen hcut
        go_wp2
        have hS : w1.drew = w1.drew := rfl
        refine wp_region_keep (fun w' => w' = w1.drew) [(0, false), (1, false), (2, false), (3, false), (4, false), (5, false), (6, false), (7, false), (8, false), (9, false), (10, false), (11, false), (12, false), (13, false)] (by kernel_rfl) (by kernel_rfl) (by kernel_rfl) (fun d _ _ _ _ h => by cases d <;> exact h) ?_
        refine held_pure (v := ?_) rfl rfl (by simp [Region.wanted, yielded]) hS ?_ ?_
        rotate_left
        · intro w hw; go_simp; try with_reducible rfl
        try simp only [Act.put, List.setIfInBounds_toArray, List.set_cons_succ, List.set_cons_zero]
        refine held_pure (v := ?_) rfl rfl (by simp [Region.wanted, yielded]) hS ?_ ?_
        rotate_left
        · intro w hw; go_simp; try with_reducible rfl
        try simp only [Act.put, List.setIfInBounds_toArray, List.set_cons_succ, List.set_cons_zero]
        refine held_pure (v := ?_) rfl rfl (by simp [Region.wanted, yielded]) hS ?_ ?_
        rotate_left
        · intro w hw; go_simp; try with_reducible rfl
        try simp only [Act.put, List.setIfInBounds_toArray, List.set_cons_succ, List.set_cons_zero]
        refine held_pure (v := ?_) rfl rfl (by simp [Region.wanted, yielded]) hS ?_ ?_
        rotate_left
        · intro w hw; go_simp; try with_reducible rfl
        try simp only [Act.put, List.setIfInBounds_toArray, List.set_cons_succ, List.set_cons_zero]
        refine held_pure (v := ?_) rfl rfl (by simp [Region.wanted, yielded]) hS ?_ ?_
        rotate_left
        · intro w hw; have c0 := HL0.out w hw; clear hw; go_simp; try with_reducible rfl
        try simp only [Act.put, List.setIfInBounds_toArray, List.set_cons_succ, List.set_cons_zero]
        refine held_pure (v := ?_) rfl rfl (by simp [Region.wanted, yielded]) hS ?_ ?_
        rotate_left
        · intro w hw; go_simp; try with_reducible rfl
        try simp only [Act.put, List.setIfInBounds_toArray, List.set_cons_succ, List.set_cons_zero]
        refine held_pure (v := ?_) rfl rfl (by simp [Region.wanted, yielded]) hS ?_ ?_
        rotate_left
        · intro w hw; go_simp; try with_reducible rfl
        try simp only [Act.put, List.setIfInBounds_toArray, List.set_cons_succ, List.set_cons_zero]
        refine held_pure (v := ?_) rfl rfl (by simp [Region.wanted, yielded]) hS ?_ ?_
        rotate_left
        · intro w hw; go_simp; try with_reducible rfl
        try simp only [Act.put, List.setIfInBounds_toArray, List.set_cons_succ, List.set_cons_zero]
        refine held_pure (v := ?_) rfl rfl (by simp [Region.wanted, yielded]) hS ?_ ?_
        rotate_left
        · intro w hw; go_simp; try with_reducible rfl
        try simp only [Act.put, List.setIfInBounds_toArray, List.set_cons_succ, List.set_cons_zero]
        refine held_pure (v := ?_) rfl rfl (by simp [Region.wanted, yielded]) hS ?_ ?_
        rotate_left
        · intro w hw; have c0 := HL1.out w hw; clear hw; go_simp; try with_reducible rfl
        try simp only [Act.put, List.setIfInBounds_toArray, List.set_cons_succ, List.set_cons_zero]
        refine held_pure (v := ?_) rfl rfl (by simp [Region.wanted, yielded]) hS ?_ ?_
        rotate_left
        · intro w hw; go_simp; try with_reducible rfl
        try simp only [Act.put, List.setIfInBounds_toArray, List.set_cons_succ, List.set_cons_zero]
        rw [Hsub.out]
        refine held_pure (v := ?_) rfl rfl (by simp [Region.wanted, yielded]) hS ?_ ?_
        rotate_left
        · intro w hw; go_simp; try with_reducible rfl
        try simp only [Act.put, List.setIfInBounds_toArray, List.set_cons_succ, List.set_cons_zero]
        rw [Hsub2.out]
        refine held_pure (v := ?_) rfl rfl (by simp [Region.wanted, yielded]) hS ?_ ?_
        rotate_left
        · intro w hw; go_simp; try with_reducible rfl
        try simp only [Act.put, List.setIfInBounds_toArray, List.set_cons_succ, List.set_cons_zero]
        refine held_pure (v := ?_) rfl rfl (by simp [Region.wanted, yielded]) hS ?_ ?_
        rotate_left
        · intro w hw; go_simp; try with_reducible rfl
        try simp only [Act.put, List.setIfInBounds_toArray, List.set_cons_succ, List.set_cons_zero]
        refine held_end ?_
        clear hS
        go_wp2
        have hS : w1.drew.drew = w1.drew.drew := rfl
        have HL0 := Lib.hid (show ∀ w', w' = w1.drew.drew → w'.cell? ⟨g, 0, none⟩ = some (.slice A l c) from fun w' h => by rw [h]; exact HL0.out w1.drew rfl)
        have HL1 := Lib.hid (show ∀ w', w' = w1.drew.drew → w'.cell? ⟨g, 1, none⟩ = some (.int .i64 (q : Int)) from fun w' h => by rw [h]; exact HL1.out w1.drew rfl)
        refine wp_region_keep (fun w' => w' = w1.drew.drew) [(0, false), (1, false), (2, false), (3, false), (4, false), (5, false), (6, false), (7, false), (8, false), (9, false), (10, false), (11, false), (12, false), (13, false), (14, false), (15, false), (16, false), (17, false)] (by kernel_rfl) (by kernel_rfl) (by kernel_rfl) (fun d _ _ _ _ h => by cases d <;> exact h) ?_
        refine held_pure (v := ?_) rfl rfl (by simp [Region.wanted, yielded]) hS ?_ ?_
        rotate_left
        · intro w hw; go_simp; try with_reducible rfl
        try simp only [Act.put, List.setIfInBounds_toArray, List.set_cons_succ, List.set_cons_zero]
        refine held_pure (v := ?_) rfl rfl (by simp [Region.wanted, yielded]) hS ?_ ?_
        rotate_left
        · intro w hw; go_simp; try with_reducible rfl
        try simp only [Act.put, List.setIfInBounds_toArray, List.set_cons_succ, List.set_cons_zero]
        refine held_pure (v := ?_) rfl rfl (by simp [Region.wanted, yielded]) hS ?_ ?_
        rotate_left
        · intro w hw; go_simp; try with_reducible rfl
        try simp only [Act.put, List.setIfInBounds_toArray, List.set_cons_succ, List.set_cons_zero]
        refine held_pure (v := ?_) rfl rfl (by simp [Region.wanted, yielded]) hS ?_ ?_
        rotate_left
        · intro w hw; have c0 := HL0.out w hw; clear hw; go_simp; try with_reducible rfl
        try simp only [Act.put, List.setIfInBounds_toArray, List.set_cons_succ, List.set_cons_zero]
        refine held_pure (v := ?_) rfl rfl (by simp [Region.wanted, yielded]) hS ?_ ?_
        rotate_left
        · intro w hw; go_simp; try with_reducible rfl
        try simp only [Act.put, List.setIfInBounds_toArray, List.set_cons_succ, List.set_cons_zero]
        refine held_pure (v := ?_) rfl rfl (by simp [Region.wanted, yielded]) hS ?_ ?_
        rotate_left
        · intro w hw; go_simp; try with_reducible rfl
        try simp only [Act.put, List.setIfInBounds_toArray, List.set_cons_succ, List.set_cons_zero]
        refine held_pure (v := ?_) rfl rfl (by simp [Region.wanted, yielded]) hS ?_ ?_
        rotate_left
        · intro w hw; go_simp; try with_reducible rfl
        try simp only [Act.put, List.setIfInBounds_toArray, List.set_cons_succ, List.set_cons_zero]
        refine held_pure (v := ?_) rfl rfl (by simp [Region.wanted, yielded]) hS ?_ ?_
        rotate_left
        · intro w hw; have c0 := HL1.out w hw; clear hw; go_simp; try with_reducible rfl
        try simp only [Act.put, List.setIfInBounds_toArray, List.set_cons_succ, List.set_cons_zero]
        refine held_pure (v := ?_) rfl rfl (by simp [Region.wanted, yielded]) hS ?_ ?_
        rotate_left
        · intro w hw; go_simp; try with_reducible rfl
        try simp only [Act.put, List.setIfInBounds_toArray, List.set_cons_succ, List.set_cons_zero]
        refine held_pure (v := ?_) rfl rfl (by simp [Region.wanted, yielded]) hS ?_ ?_
        rotate_left
        · intro w hw; go_simp; try with_reducible rfl
        try simp only [Act.put, List.setIfInBounds_toArray, List.set_cons_succ, List.set_cons_zero]
        refine held_pure (v := ?_) rfl rfl (by simp [Region.wanted, yielded]) hS ?_ ?_
        rotate_left
        · intro w hw; go_simp; try with_reducible rfl
        try simp only [Act.put, List.setIfInBounds_toArray, List.set_cons_succ, List.set_cons_zero]
        refine held_pure (v := ?_) rfl rfl (by simp [Region.wanted, yielded]) hS ?_ ?_
        rotate_left
        · intro w hw; have c0 := HL1.out w hw; clear hw; go_simp; try with_reducible rfl
        try simp only [Act.put, List.setIfInBounds_toArray, List.set_cons_succ, List.set_cons_zero]
        refine held_pure (v := ?_) rfl rfl (by simp [Region.wanted, yielded]) hS ?_ ?_
        rotate_left
        · intro w hw; go_simp; try with_reducible rfl
        try simp only [Act.put, List.setIfInBounds_toArray, List.set_cons_succ, List.set_cons_zero]
        refine held_pure (v := ?_) rfl rfl (by simp [Region.wanted, yielded]) hS ?_ ?_
        rotate_left
        · intro w hw; go_simp; try with_reducible rfl
        try simp only [Act.put, List.setIfInBounds_toArray, List.set_cons_succ, List.set_cons_zero]
        rw [Hwn.out]
        refine held_pure (v := ?_) rfl rfl (by simp [Region.wanted, yielded]) hS ?_ ?_
        rotate_left
        · intro w hw; go_simp; try with_reducible rfl
        try simp only [Act.put, List.setIfInBounds_toArray, List.set_cons_succ, List.set_cons_zero]
        rw [Hwa.out]
        refine held_pure (v := ?_) rfl rfl (by simp [Region.wanted, yielded]) hS ?_ ?_
        rotate_left
        · intro w hw; go_simp; try with_reducible rfl
        try simp only [Act.put, List.setIfInBounds_toArray, List.set_cons_succ, List.set_cons_zero]
        generalize (if c = q then A else Option.map (fun x => x.add q) A) = A2 at hhead ⊢
        have HC := Lib.hid (show ∀ w', w' = w1.drew.drew → (convert 23 9 (.slice A2 (en - q) (c - q))).run Try.prog w' = .ok (.string (txt ((xs.drop q).take (en - q)))) w' from fun w' h => by
          rw [h]
          exact run_bytes_string w1.drew.drew 23 9 5 Try.underlying23 Try.underlying5 Try.underlying9 _ A2 (en - q) (c - q) _ hhead)
        refine held_pure (v := ?_) rfl rfl (by simp [Region.wanted, yielded]) hS ?_ ?_
        rotate_left
        · intro w hw; have c0 := HC.out w hw; clear hw; go_simp; try with_reducible rfl
        try simp only [Act.put, List.setIfInBounds_toArray, List.set_cons_succ, List.set_cons_zero]
        refine held_pure (v := ?_) rfl rfl (by simp [Region.wanted, yielded]) hS ?_ ?_
        rotate_left
        · intro w hw; go_simp; try with_reducible rfl
        try simp only [Act.put, List.setIfInBounds_toArray, List.set_cons_succ, List.set_cons_zero]
        refine held_end ?_
        clear hS
        rw [Htxt.out]
        have f1 := Hb1.out.frozen 1
        have c1 := Hb1.out.cell 1
        have hqr : q + rn ≤ 9223372036854775807 := by have := Hen.out; unfold maxLen at hc; omega
        have hend : Cut (w1.drew.drew.setCell ⟨g, 1, none⟩ (.int .i64 ((q : Int) + (rn : Int)))) g A l c (at' + (rk + rn)) 0 := by
          have h := Hb1.out.drew.drew.set_ 1 (.int .i64 ((q : Int) + (rn : Int)))
          have e : ((at' + (rk + rn) : Nat) : Int) = (q : Int) + (rn : Int) := by have := Hqq.out; omega
          unfold Cut
          rw [e]
          exact h
        have Hend := Lib.hid hend
        clear hend
        generalize txt (((xs.drop at').drop rk).take rn) = s at Htk ⊢
        go_wp2
        go_ret
        unfold TakenT
        rw [Htk.out]
        exact ⟨hg1.trans ((grown_drew w1 _).trans ((grown_drew _ _).trans (grown_set _ g 1 _))), rfl, Hend.out⟩
  · rw [if_pos hre] at htk
    have hn : ((re : Int) == 0) = false := by simp; omega
    have hn2 : ((re : Int) != 0) = true := by simp; omega
    have Htk := Lib.hid htk
    have Hb1 := Lib.hid hb1
    clear htk hk3 hb1 hb1s
    go_wp2
    go_ret
    exact takenT_err Htk.out hg1 hq Hb1.out
end Go.Proofs.Ytckaohkhknoocaa
