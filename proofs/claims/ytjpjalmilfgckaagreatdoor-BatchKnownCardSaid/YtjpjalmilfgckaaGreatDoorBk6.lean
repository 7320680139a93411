/- Part 6 of the walks, merged: each text under its own heading. Conditions: none of its own; each lemma states what it asks. -/
import Derived.Test.YtjpjalmilfgckaaGreatDoorBk5
import Derived.Deep.LoopGhost
set_option linter.unusedVariables false
set_option linter.unusedSimpArgs false
namespace Go.Proofs.YtjpjalmilfgckaaGreatDoor
open Go.RowKit
theorem grown_set (w : World) (g i : Nat) (u : Value) : w.grownBy (w.setCell ⟨g, i, none⟩ u) (some g) :=
 ⟨rfl, rfl, rfl, by simp [World.setCell], fun k hk hne => Below.heap_setCell w ⟨g, i, none⟩ u k (by intro e; exact hne (by rw [e]))⟩
theorem grown_drew (w : World) (r : Option Nat) : w.grownBy w.drew r := ⟨rfl, rfl, rfl, Nat.le_refl _, fun _ _ _ => rfl⟩
abbrev Cut (w : World) (g : Nat) (A : Option Addr) (l c : Nat) (at' : Nat) (e : Nat) : Prop := Blk w g 309 #[.slice A l c, .int .i64 (at' : Int), .int .i64 (e : Int)]
theorem get_size (xs : List UInt8) : (get xs).2.1 ≤ xs.length ∧ (get xs).2.2 < 11 ∧ ((get xs).2.2 ≠ 0 → (get xs).1 = 0 ∧ (get xs).2.1 = 0) := by
 rcases get_only xs with ⟨n, h, h1, h2, h3⟩ | ⟨e, h, h1, h2⟩
 ·rw [h]
  exact ⟨h2, show 0 < 11 from by decide, fun h => absurd rfl h⟩
 ·rw [h]
  exact ⟨Nat.zero_le _, h2, fun _ => ⟨rfl, rfl⟩⟩
theorem own_grown {w w' : World} {base size n g : Nat} {e t : TypeId} {v : Value} {xs : List Value} {cs : Array Value} (h : w.ownsRow base e size v n xs) (hb : Blk w g t cs) (hne : e ≠ t) (hg : w.grownBy w' (some g)) : w'.ownsRow base e size v n xs := by
 refine h.kept hg ?_
 rcases h.2 with ⟨rfl, h0⟩ | ⟨g2, cap, cur, rfl, h1, h2, h3⟩
 ·exact .inl rfl
 ·right
  simp only [Value.ownBlock, ne_eq, Option.some.injEq]
  rintro rfl
  unfold Blk at hb
  rw [h2] at hb
  injection hb with hb
  injection hb with _ h4
  exact hne h4
theorem Blk.other {w w' : World} {g g2 : Nat} {t : TypeId} {cs : Array Value} (h : Blk w g t cs) (hg : w.grownBy w' (some g2)) (hne : g ≠ g2) : Blk w' g t cs :=
 (hg.block g h.lt (by simpa using hne)).trans h
theorem Blk.ne {w : World} {g g2 : Nat} {t t2 : TypeId} {cs cs2 : Array Value} (h : Blk w g t cs) (h2 : Blk w g2 t2 cs2) (hne : t ≠ t2) : g ≠ g2 := by
 rintro rfl
 unfold Blk at h h2
 rw [h] at h2
 injection h2 with h2
 injection h2 with _ h4
 exact hne h4
theorem Below.by_ {w w' : World} {B g : Nat} (hg : w.grownBy w' (some g)) (hB : B ≤ w.heap.size) (h : B ≤ g) : Below B w w' :=
 (Below.refl _ _).grown hg hB (fun k hk => by cases hk; exact h)
set_option maxRecDepth 100000 in
set_option maxHeartbeats 400000 in
theorem cnum_err (g : Nat) (A : Option Addr) (l c at' e : Nat) (w : World) (hb : Cut w g A l c at' e) (he : e ≠ 0) :
  Calls Tryz.prog 268 #[.pointer (some ⟨g, 0, none⟩)] w fun e' w' => e' = .returned (.int .u64 0) ∧ w = w' := by
 have c2 := hb.cell 2
 have hn : ((e : Int) == 0) = false := by simp; omega
 have hn2 : ((e : Int) != 0) = true := by simp; omega
 clear hb he
 go_enter Tryz.func268, Tryz.ntmps268
 go_wp2
 go_ret
 exact ⟨rfl, rfl⟩
def Taken (g : Nat) (A : Option Addr) (l c at' : Nat) (r : Nat × Nat × Nat) (w : World) (e : Ending) (w' : World) : Prop :=
 e = .returned (.int .u64 (r.1 : Int)) ∧ Cut w' g A l c (at' + r.2.1) r.2.2 ∧ w.grownBy w' (some g)
set_option maxRecDepth 100000 in
set_option maxHeartbeats 1000000 in
theorem cnum_any (g : Nat) (A : Option Addr) (l c at' : Nat) (xs : List UInt8) (w : World) (hb : Cut w g A l c at' 0) (hr : Reads w w.heap.size 1 A l (u8s xs)) (hl : l ≤ c) (hc : c ≤ maxLen) (hat : at' ≤ l) :
  Calls Tryz.prog 268 #[.pointer (some ⟨g, 0, none⟩)] w (Taken g A l c at' (get (xs.drop at')) w) := by
 have c0 := hb.cell 0
 have c1 := hb.cell 1
 have c2 := hb.cell 2
 have f1 := hb.frozen 1
 have f2 := hb.frozen 2
 have hcut := hr.cut (k := at') (cap := c) hat hl
 rw [Nat.mul_one, u8s_drop] at hcut
 have hrl := reads_len hr
 have hgs := get_size (xs.drop at')
 rw [List.length_drop, hrl] at hgs
 unfold maxLen at hc
 have hL0 : ∀ w', w' = w.drew → w'.cell? ⟨g, 0, none⟩ = some (.slice A l c) := fun w' h => by rw [h]; exact c0
 have hL1 : ∀ w', w' = w.drew → w'.cell? ⟨g, 1, none⟩ = some (.int .i64 (at' : Int)) := fun w' h => by rw [h]; exact c1
 have HL0 := Lib.hid hL0
 have HL1 := Lib.hid hL1
 obtain ⟨hg1, hg2, -⟩ := hgs
 have Hb := Lib.hid hb
 clear hL0 hL1 hrl hb
 have hac : at' ≤ c := by omega
 go_enter Tryz.func268, Tryz.ntmps268
 go_wp2
 have hS : w.drew = w.drew := rfl
 refine wp_region_keep (fun w' => w' = w.drew) [(0, false), (1, false), (2, false), (3, false), (4, false), (5, false), (6, false), (7, false), (8, false), (9, true), (10, false), (11, false), (12, false), (13, false), (14, false), (15, false), (16, false)] (by kernel_rfl) (by kernel_rfl) (by kernel_rfl) (fun d _ _ _ _ h => by cases d <;> exact h) ?_
 iterate 3
  refine held_pure (v := ?_) rfl rfl (by simp [Region.wanted, yielded]) hS ?_ ?_
  rotate_left
  ·intro w hw; go_simp; try with_reducible rfl
  try simp only [Act.put, zpA, zpB, zpC]
 refine held_pure (v := ?_) rfl rfl (by simp [Region.wanted, yielded]) hS ?_ ?_
 rotate_left
 ·intro w hw; have c0 := HL0.out w hw; clear hw; go_simp; try with_reducible rfl
 try simp only [Act.put, zpA, zpB, zpC]
 iterate 3
  refine held_pure (v := ?_) rfl rfl (by simp [Region.wanted, yielded]) hS ?_ ?_
  rotate_left
  ·intro w hw; go_simp; try with_reducible rfl
  try simp only [Act.put, zpA, zpB, zpC]
 refine held_pure (v := ?_) rfl rfl (by simp [Region.wanted, yielded]) hS ?_ ?_
 rotate_left
 ·intro w hw; have c0 := HL1.out w hw; clear hw; go_simp; try with_reducible rfl
 try simp only [Act.put, zpA, zpB, zpC]
 refine held_pure (v := ?_) rfl rfl (by simp [Region.wanted, yielded]) hS ?_ ?_
 rotate_left
 ·intro w hw; go_simp; try with_reducible rfl
 try simp only [Act.put, zpA, zpB, zpC]
 refine held_eff1 rfl (by simp [Region.wanted, yielded]) fun K hK => ?_
 go_simp
 generalize (if c = at' then A else Option.map (fun x => x.add at') A) = A' at hcut ⊢
 with_reducible refine (get_any _ _ _ (xs.drop at') _ hcut.drew (by omega) (by simp only [maxLen]; omega)).mono ?_
 rintro e w3 ⟨rfl, rfl⟩
 generalize hget : get (xs.drop at') = r at hg1 hg2 ⊢
 obtain ⟨rn, rk, re⟩ := r
 have Hget := Lib.hid hget
 clear hget
 simp only [gotten] at hg1 hg2 ⊢
 refine held_go hK (by exact rfl) fun hS => ?_
 clear hK K
 try simp only [Act.put, zpA, zpB, zpC]
 iterate 7
  refine held_pure (v := ?_) rfl rfl (by simp [Region.wanted, yielded]) hS ?_ ?_
  rotate_left
  ·intro w hw; go_simp; try with_reducible rfl
  try simp only [Act.put, zpA, zpB, zpC]
 refine held_end ?_
 clear hS
 go_wp2
 go_ret
 rw [Hget.out]
 have hb2 := (Hb.out.set_ 1 (.int .i64 ((at' : Int) + (rk : Int)))).set_ 2 (.int .i64 (re : Int))
 refine ⟨rfl, ?_, ?_⟩
 ·have e : ((at' + rk : Nat) : Int) = (at' : Int) + (rk : Int) := by omega
  simp only [e]
  exact hb2.drew
 ·exact (grown_drew w _).trans ((grown_set w.drew g 1 _).trans (grown_set _ g 2 _))
end Go.Proofs.YtjpjalmilfgckaaGreatDoor
namespace Go.Proofs.YtjpjalmilfgckaaGreatDoor
open Go.RowKit
theorem Reads.other {w w' : World} {size n g : Nat} {A : Option Addr} {xs : List Value} (h : Reads w w.heap.size size A n xs) (hg : w.grownBy w' (some g)) (hne : 0 < n → ∀ ad, A = some ad → ad.block ≠ g) : Reads w' w'.heap.size size A n xs := by
 refine ⟨h.1, fun hn => ?_⟩
 obtain ⟨ad, e, h1, h2⟩ := h.2 hn
 refine ⟨ad, e, Nat.lt_of_lt_of_le h1 hg.size, fun j u hu => ?_⟩
 exact hg.cell (h2 j u hu) (by rw [block_of_add]; simpa using hne hn ad e)
theorem i64_wrap (x : Int) (h1 : -9223372036854775808 ≤ x) (h2 : x ≤ 9223372036854775807) : IntKind.i64.wrap x = x := by
 simp only [IntKind.wrap, IntKind.signed, IntKind.bits]
 simp
 omega
def TakenT (g : Nat) (A : Option Addr) (l c at' : Nat) (r : Except Nat (ByteArray × Nat)) (w : World) (e : Ending) (w' : World) : Prop :=
 w.grownBy w' (some g) ∧ match r with
  | .error k => e = .returned (.string ⟨#[]⟩) ∧ ∃ at2, at2 ≤ l ∧ Cut w' g A l c at2 k
  | .ok (s, n) => e = .returned (.string s) ∧ Cut w' g A l c (at' + n) 0
theorem takenT_err {g : Nat} {A : Option Addr} {l c at' k at2 : Nat} {r : Except Nat (ByteArray × Nat)} {w w' : World} (hr : r = .error k) (h1 : w.grownBy w' (some g)) (h2 : at2 ≤ l) (h3 : Cut w' g A l c at2 k) : TakenT g A l c at' r w (.returned (.string ⟨#[]⟩)) w' := by
 subst hr
 exact ⟨h1, rfl, at2, h2, h3⟩
set_option maxRecDepth 100000 in
set_option maxHeartbeats 1000000 in
theorem ctext_any (g : Nat) (A : Option Addr) (l c at' : Nat) (xs : List UInt8) (most : Int) (w : World) (hb : Cut w g A l c at' 0) (hr : Reads w w.heap.size 1 A l (u8s xs)) (hl : l ≤ c) (hc : c ≤ maxLen) (hat : at' ≤ l) (hg : 0 < l → ∀ ad, A = some ad → ad.block ≠ g) (hm : most ≤ 9223372036854775807) :
  Calls Tryz.prog 292 #[.pointer (some ⟨g, 0, none⟩), .int .i64 most] w (TakenT g A l c at' (takeT most (xs.drop at')) w) := by
 have hgs := get_size (xs.drop at')
 have hrl := reads_len hr
 rw [List.length_drop, hrl] at hgs
 have Hrl := Lib.hid hrl
 clear hrl
 go_enter Tryz.func292, Tryz.ntmps292
 go_wp2_with fail
 with_reducible refine (cnum_any g A l c at' xs _ hb hr hl hc hat).mono ?_
 rintro e w1 ⟨rfl, hb1, hg1⟩
 have hr1 := hr.other hg1 hg
 have htk : takeT most (xs.drop at') = takeT most (xs.drop at') := rfl
 conv at htk => rhs; unfold takeT
 rw [List.length_drop, Hrl.out] at htk
 generalize get (xs.drop at') = r at hgs hb1 htk ⊢
 obtain ⟨rn, rk, re⟩ := r
 obtain ⟨hk1, hk2, hk3⟩ := hgs
 simp only at hk1 hk2 hk3 hb1 htk ⊢
 have hq : at' + rk ≤ l := by omega
 rw [show l - at' - rk = l - (at' + rk) from by omega] at htk
 generalize hqq : at' + rk = q at hb1 hq htk
 have Hqq := Lib.hid hqq
 clear hqq
 have c2 := hb1.cell 2
 have f2 := hb1.frozen 2
 have hb1s := fun u => hb1.set_ 2 u
 by_cases hre : re = 0
 ·subst hre
  rw [if_neg (by simp)] at htk
  by_cases hlim : most < 0 ∨ most < (rn : Int)
  ·rw [if_pos hlim] at htk
   have Htk := Lib.hid htk
   have Hb1 := Lib.hid hb1
   have Hb1s := Lib.hid hb1s
   clear htk hk3 hb1 hb1s
   rcases hlim with h | h
   ·go_wp2
    go_ret
    exact takenT_err Htk.out (hg1.trans (grown_set w1 g 2 _)) hq (Hb1s.out _)
   ·by_cases hm0 : most < 0
    ·go_wp2
     go_ret
     exact takenT_err Htk.out (hg1.trans (grown_set w1 g 2 _)) hq (Hb1s.out _)
    ·obtain ⟨mo, rfl⟩ := Int.eq_ofNat_of_zero_le (by omega : 0 ≤ most)
     go_wp2
     go_ret
     exact takenT_err Htk.out (hg1.trans (grown_set w1 g 2 _)) hq (Hb1s.out _)
  ·rw [if_neg hlim] at htk
   obtain ⟨mo, rfl⟩ := Int.eq_ofNat_of_zero_le (by omega : 0 ≤ most)
   have hmo : rn ≤ mo := by omega
   have c0 := hb1.cell 0
   have c1 := hb1.cell 1
   have hL0 : ∀ w', w' = w1.drew → w'.cell? ⟨g, 0, none⟩ = some (.slice A l c) := fun w' h => by rw [h]; exact c0
   have hL1 : ∀ w', w' = w1.drew → w'.cell? ⟨g, 1, none⟩ = some (.int .i64 (q : Int)) := fun w' h => by rw [h]; exact c1
   have HL0 := Lib.hid hL0
   have HL1 := Lib.hid hL1
   have hl63 : l ≤ 9223372036854775807 := by unfold maxLen at hc; omega
   have hsub : IntKind.i64.wrap ((l : Int) - (q : Int)) = ((l - q : Nat) : Int) := by rw [i64_wrap _ (by omega) (by omega)]; omega
   have hsub2 := u64_wrap (l - q) (by omega)
   have Hsub := Lib.hid hsub
   have Hsub2 := Lib.hid hsub2
   clear hlim hk3 hL0 hL1 c0 c1 hsub hsub2
   by_cases hlen : l - q < rn
   ·rw [if_pos hlen] at htk
    have Htk := Lib.hid htk
    have Hb1 := Lib.hid hb1
    have Hb1s := Lib.hid hb1s
    have db : decide (l - q < rn) = true := by simp; omega
    clear htk hb1 hb1s
    go_wp2
    have hS : w1.drew = w1.drew := rfl
    refine wp_region_keep (fun w' => w' = w1.drew) [(0, false), (1, false), (2, false), (3, false), (4, false), (5, false), (6, false), (7, false), (8, false), (9, false), (10, false), (11, false), (12, false), (13, false)] (by kernel_rfl) (by kernel_rfl) (by kernel_rfl) (fun d _ _ _ _ h => by cases d <;> exact h) ?_
    iterate 4
     refine held_pure (v := ?_) rfl rfl (by simp [Region.wanted, yielded]) hS ?_ ?_
     rotate_left
     ·intro w hw; go_simp; try with_reducible rfl
     try simp only [Act.put, zpA, zpB, zpC]
    refine held_pure (v := ?_) rfl rfl (by simp [Region.wanted, yielded]) hS ?_ ?_
    rotate_left
    ·intro w hw; have c0 := HL0.out w hw; clear hw; go_simp; try with_reducible rfl
    try simp only [Act.put, zpA, zpB, zpC]
    iterate 4
     refine held_pure (v := ?_) rfl rfl (by simp [Region.wanted, yielded]) hS ?_ ?_
     rotate_left
     ·intro w hw; go_simp; try with_reducible rfl
     try simp only [Act.put, zpA, zpB, zpC]
    refine held_pure (v := ?_) rfl rfl (by simp [Region.wanted, yielded]) hS ?_ ?_
    rotate_left
    ·intro w hw; have c0 := HL1.out w hw; clear hw; go_simp; try with_reducible rfl
    try simp only [Act.put, zpA, zpB, zpC]
    refine held_pure (v := ?_) rfl rfl (by simp [Region.wanted, yielded]) hS ?_ ?_
    rotate_left
    ·intro w hw; go_simp; try with_reducible rfl
    try simp only [Act.put, zpA, zpB, zpC]
    rw [Hsub.out]
    refine held_pure (v := ?_) rfl rfl (by simp [Region.wanted, yielded]) hS ?_ ?_
    rotate_left
    ·intro w hw; go_simp; try with_reducible rfl
    try simp only [Act.put, zpA, zpB, zpC]
    rw [Hsub2.out]
    iterate 2
     refine held_pure (v := ?_) rfl rfl (by simp [Region.wanted, yielded]) hS ?_ ?_
     rotate_left
     ·intro w hw; go_simp; try with_reducible rfl
     try simp only [Act.put, zpA, zpB, zpC]
    refine held_end ?_
    clear hS
    go_wp2
    go_ret
    exact takenT_err Htk.out (hg1.trans ((grown_drew w1 _).trans (grown_set w1.drew g 2 _))) hq ((Hb1s.out _).drew)
   ·rw [if_neg hlen] at htk
    have Htk := Lib.hid htk
    have Hb1 := Lib.hid hb1
    have db : decide (l - q < rn) = false := by simp; omega
    have hn63 : rn ≤ 9223372036854775807 := by omega
    have hwn : IntKind.i64.wrap (rn : Int) = (rn : Int) := i64_wrap _ (by omega) (by omega)
    obtain ⟨en, hen⟩ : ∃ en, en = q + rn := ⟨_, rfl⟩
    have hwa : IntKind.i64.wrap ((q : Int) + (rn : Int)) = (en : Int) := by rw [i64_wrap _ (by omega) (by omega)]; omega
    have hqe : q ≤ en := by omega
    have hec : en ≤ c := by omega
    have hel : en - q ≤ l - q := by omega
    have hcut := hr1.cut (k := q) (cap := c) hq hl
    rw [Nat.mul_one, u8s_drop] at hcut
    have hhead := hcut.head (k := en - q) hel
    rw [Nat.mul_one, u8s_take] at hhead
    have htxt : txt ((xs.drop q).take (en - q)) = txt (((xs.drop at').drop rk).take rn) := by
     rw [List.drop_drop, Hqq.out, hen, Nat.add_sub_cancel_left]
    have Htxt := Lib.hid htxt
    have Hen := Lib.hid hen
    have Hwn := Lib.hid hwn
    have Hwa := Lib.hid hwa
    clear htk hb1 hwn hwa hb1s htxt hen hcut
    go_wp2
    have hS : w1.drew = w1.drew := rfl
    refine wp_region_keep (fun w' => w' = w1.drew) [(0, false), (1, false), (2, false), (3, false), (4, false), (5, false), (6, false), (7, false), (8, false), (9, false), (10, false), (11, false), (12, false), (13, false)] (by kernel_rfl) (by kernel_rfl) (by kernel_rfl) (fun d _ _ _ _ h => by cases d <;> exact h) ?_
    iterate 4
     refine held_pure (v := ?_) rfl rfl (by simp [Region.wanted, yielded]) hS ?_ ?_
     rotate_left
     ·intro w hw; go_simp; try with_reducible rfl
     try simp only [Act.put, zpA, zpB, zpC]
    refine held_pure (v := ?_) rfl rfl (by simp [Region.wanted, yielded]) hS ?_ ?_
    rotate_left
    ·intro w hw; have c0 := HL0.out w hw; clear hw; go_simp; try with_reducible rfl
    try simp only [Act.put, zpA, zpB, zpC]
    iterate 4
     refine held_pure (v := ?_) rfl rfl (by simp [Region.wanted, yielded]) hS ?_ ?_
     rotate_left
     ·intro w hw; go_simp; try with_reducible rfl
     try simp only [Act.put, zpA, zpB, zpC]
    refine held_pure (v := ?_) rfl rfl (by simp [Region.wanted, yielded]) hS ?_ ?_
    rotate_left
    ·intro w hw; have c0 := HL1.out w hw; clear hw; go_simp; try with_reducible rfl
    try simp only [Act.put, zpA, zpB, zpC]
    refine held_pure (v := ?_) rfl rfl (by simp [Region.wanted, yielded]) hS ?_ ?_
    rotate_left
    ·intro w hw; go_simp; try with_reducible rfl
    try simp only [Act.put, zpA, zpB, zpC]
    rw [Hsub.out]
    refine held_pure (v := ?_) rfl rfl (by simp [Region.wanted, yielded]) hS ?_ ?_
    rotate_left
    ·intro w hw; go_simp; try with_reducible rfl
    try simp only [Act.put, zpA, zpB, zpC]
    rw [Hsub2.out]
    iterate 2
     refine held_pure (v := ?_) rfl rfl (by simp [Region.wanted, yielded]) hS ?_ ?_
     rotate_left
     ·intro w hw; go_simp; try with_reducible rfl
     try simp only [Act.put, zpA, zpB, zpC]
    refine held_end ?_
    clear hS
    go_wp2
    have hS : w1.drew.drew = w1.drew.drew := rfl
    have HL0 := Lib.hid (show ∀ w', w' = w1.drew.drew → w'.cell? ⟨g, 0, none⟩ = some (.slice A l c) from fun w' h => by rw [h]; exact HL0.out w1.drew rfl)
    have HL1 := Lib.hid (show ∀ w', w' = w1.drew.drew → w'.cell? ⟨g, 1, none⟩ = some (.int .i64 (q : Int)) from fun w' h => by rw [h]; exact HL1.out w1.drew rfl)
    refine wp_region_keep (fun w' => w' = w1.drew.drew) [(0, false), (1, false), (2, false), (3, false), (4, false), (5, false), (6, false), (7, false), (8, false), (9, false), (10, false), (11, false), (12, false), (13, false), (14, false), (15, false), (16, false), (17, false)] (by kernel_rfl) (by kernel_rfl) (by kernel_rfl) (fun d _ _ _ _ h => by cases d <;> exact h) ?_
    iterate 3
     refine held_pure (v := ?_) rfl rfl (by simp [Region.wanted, yielded]) hS ?_ ?_
     rotate_left
     ·intro w hw; go_simp; try with_reducible rfl
     try simp only [Act.put, zpA, zpB, zpC]
    refine held_pure (v := ?_) rfl rfl (by simp [Region.wanted, yielded]) hS ?_ ?_
    rotate_left
    ·intro w hw; have c0 := HL0.out w hw; clear hw; go_simp; try with_reducible rfl
    try simp only [Act.put, zpA, zpB, zpC]
    iterate 3
     refine held_pure (v := ?_) rfl rfl (by simp [Region.wanted, yielded]) hS ?_ ?_
     rotate_left
     ·intro w hw; go_simp; try with_reducible rfl
     try simp only [Act.put, zpA, zpB, zpC]
    refine held_pure (v := ?_) rfl rfl (by simp [Region.wanted, yielded]) hS ?_ ?_
    rotate_left
    ·intro w hw; have c0 := HL1.out w hw; clear hw; go_simp; try with_reducible rfl
    try simp only [Act.put, zpA, zpB, zpC]
    iterate 3
     refine held_pure (v := ?_) rfl rfl (by simp [Region.wanted, yielded]) hS ?_ ?_
     rotate_left
     ·intro w hw; go_simp; try with_reducible rfl
     try simp only [Act.put, zpA, zpB, zpC]
    refine held_pure (v := ?_) rfl rfl (by simp [Region.wanted, yielded]) hS ?_ ?_
    rotate_left
    ·intro w hw; have c0 := HL1.out w hw; clear hw; go_simp; try with_reducible rfl
    try simp only [Act.put, zpA, zpB, zpC]
    iterate 2
     refine held_pure (v := ?_) rfl rfl (by simp [Region.wanted, yielded]) hS ?_ ?_
     rotate_left
     ·intro w hw; go_simp; try with_reducible rfl
     try simp only [Act.put, zpA, zpB, zpC]
    rw [Hwn.out]
    refine held_pure (v := ?_) rfl rfl (by simp [Region.wanted, yielded]) hS ?_ ?_
    rotate_left
    ·intro w hw; go_simp; try with_reducible rfl
    try simp only [Act.put, zpA, zpB, zpC]
    rw [Hwa.out]
    refine held_pure (v := ?_) rfl rfl (by simp [Region.wanted, yielded]) hS ?_ ?_
    rotate_left
    ·intro w hw; go_simp; try with_reducible rfl
    try simp only [Act.put, zpA, zpB, zpC]
    generalize (if c = q then A else Option.map (fun x => x.add q) A) = A2 at hhead ⊢
    have HC := Lib.hid (show ∀ w', w' = w1.drew.drew → (convert 35 9 (.slice A2 (en - q) (c - q))).run Tryz.prog w' = .ok (.string (txt ((xs.drop q).take (en - q)))) w' from fun w' h => by
     rw [h]
     exact run_bytes_string w1.drew.drew 35 9 5 Tryz.underlying35 Tryz.underlying5 Tryz.underlying9 _ A2 (en - q) (c - q) _ hhead)
    refine held_pure (v := ?_) rfl rfl (by simp [Region.wanted, yielded]) hS ?_ ?_
    rotate_left
    ·intro w hw; have c0 := HC.out w hw; clear hw; go_simp; try with_reducible rfl
    try simp only [Act.put, zpA, zpB, zpC]
    refine held_pure (v := ?_) rfl rfl (by simp [Region.wanted, yielded]) hS ?_ ?_
    rotate_left
    ·intro w hw; go_simp; try with_reducible rfl
    try simp only [Act.put, zpA, zpB, zpC]
    refine held_end ?_
    clear hS
    rw [Htxt.out]
    have f1 := Hb1.out.frozen 1
    have c1 := Hb1.out.cell 1
    have hqr : q + rn ≤ 9223372036854775807 := by have := Hen.out; unfold maxLen at hc; omega
    have hend : Cut (w1.drew.drew.setCell ⟨g, 1, none⟩ (.int .i64 ((q : Int) + (rn : Int)))) g A l c (at' + (rk + rn)) 0 := by
     have h := Hb1.out.drew.drew.set_ 1 (.int .i64 ((q : Int) + (rn : Int)))
     have e : ((at' + (rk + rn) : Nat) : Int) = (q : Int) + (rn : Int) := by have := Hqq.out; omega
     unfold Cut
     rw [e]
     exact h
    have Hend := Lib.hid hend
    clear hend
    generalize txt (((xs.drop at').drop rk).take rn) = s at Htk ⊢
    go_wp2
    go_ret
    unfold TakenT
    rw [Htk.out]
    exact ⟨hg1.trans ((grown_drew w1 _).trans ((grown_drew _ _).trans (grown_set _ g 1 _))), rfl, Hend.out⟩
 ·rw [if_pos hre] at htk
  have hn : ((re : Int) == 0) = false := by simp; omega
  have hn2 : ((re : Int) != 0) = true := by simp; omega
  have Htk := Lib.hid htk
  have Hb1 := Lib.hid hb1
  clear htk hk3 hb1 hb1s
  go_wp2
  go_ret
  exact takenT_err Htk.out hg1 hq Hb1.out
end Go.Proofs.YtjpjalmilfgckaaGreatDoor
namespace Go.Proofs.YtjpjalmilfgckaaGreatDoor
open Go.RowKit
theorem reads_new_at (w : World) (v : Value) (e : TypeId) (b : Nat) (hb : b = w.heap.size) : Reads (w.alloc (.cells #[v] e)) (w.alloc (.cells #[v] e)).heap.size 1 (some ⟨b, 0, none⟩) 1 [v] := by
 subst hb
 exact reads_new w v e
theorem grown_below {w w1 w2 : World} {r : Option Nat} (h : w.grownBy w1 r) (h2 : Below w.heap.size w1 w2) : w.grownBy w2 r :=
 ⟨h2.os.trans h.os, h2.tape.trans h.tape, h2.output.trans h.output, Nat.le_trans h.size h2.size, fun k hk hne => (h2.block k hk).trans (h.block k hk hne)⟩
theorem takeT_err (most : Int) (b : List UInt8) (k : Nat) (h : takeT most b = .error k) : k ≠ 0 := by
 unfold takeT at h
 split at h
 ·rename_i h1; injection h with h; subst h; exact h1
 ·split at h
  ·injection h with h; omega
  ·split at h
   ·injection h with h; omega
   ·cases h
theorem takeT_ok (most : Int) (b : List UInt8) (s : ByteArray) (n : Nat) (h : takeT most b = .ok (s, n)) : n ≤ b.length ∧ s.size ≤ b.length := by
 unfold takeT at h
 have hg := get_size b
 split at h
 ·cases h
 ·split at h
  ·cases h
  ·split at h
   ·cases h
   ·injection h with h
    injection h with h1 h2
    subst h1 h2
    refine ⟨by omega, ?_⟩
    rw [← bts_len, bts_txt, List.length_take, List.length_drop]
    omega
def metF (d : List ByteArray) (s : ByteArray) : Option Int := if (placeL d s).isSome then some 1 else none
theorem metF_put (d : List ByteArray) (s : ByteArray) (r : ByteArray) : metF (d ++ [s]) r = if r = s then some 1 else metF d r := by
 have h : ∀ d : List ByteArray, (placeL d r).isSome = true ↔ r ∈ d := fun d => by
  rcases hp : placeL d r with _ | k
  ·have := (placeL_none d r).1 hp
   simp [this]
  ·have := List.mem_of_getElem? (placeL_some d r k hp)
   simp [this]
 unfold metF
 by_cases hr : r = s
 ·rw [if_pos hr, if_pos ((h _).2 (by simp [hr]))]
 ·rw [if_neg hr]
  by_cases hd : r ∈ d
  ·rw [if_pos ((h _).2 (by simp [hd])), if_pos ((h _).2 hd)]
  ·rw [if_neg (fun e => ?_), if_neg (fun e => hd ((h _).1 e))]
   have := (h _).1 e
   simp [hd, hr] at this
def Dicted (g : Nat) (A : Option Addr) (l c : Nat) (xs : List UInt8) (r : Except Nat (List ByteArray × List UInt8)) (w : World) (e : Ending) (w' : World) : Prop :=
 w.grownBy w' (some g) ∧ match r with
  | .error k => k ≠ 0 ∧ (∃ v, e = .returned v) ∧ ∃ at2, Cut w' g A l c at2 k
  | .ok (d, q) => ∃ (gb : Nat) (A1 : Option Addr) (c1 at2 : Nat), e = .returned (.pointer (some ⟨gb, 0, none⟩)) ∧ w.heap.size ≤ gb ∧ at2 ≤ l ∧ xs.drop at2 = q ∧ Cut w' g A l c at2 0 ∧ Book w' gb A1 d.length c1 0 ∧
   d.length ≤ c1 ∧ c1 ≤ maxLen ∧ w'.ownsRow w.heap.size 9 1 (.slice A1 d.length c1) d.length (txs d)
theorem dicted_err {g : Nat} {A : Option Addr} {l c k at2 : Nat} {xs : List UInt8} {r : Except Nat (List ByteArray × List UInt8)} {w w' : World} {v : Value} (hr : r = .error k) (hk : k ≠ 0) (h1 : w.grownBy w' (some g)) (h3 : Cut w' g A l c at2 k) : Dicted g A l c xs r w (.returned v) w' := by
 subst hr
 exact ⟨h1, hk, ⟨v, rfl⟩, at2, h3⟩
def InDic (g gm gb : Nat) (A : Option Addr) (l c : Nat) (xs : List UInt8) (most : Int) (many : Nat) (res : Except Nat (List ByteArray × List UInt8)) (w : World) (k : Nat) (wr : World) : Prop :=
 w.grownBy wr (some g) ∧ ∃ (A1 : Option Addr) (nd c1 at2 er : Nat) (d : List ByteArray), nd ≤ many ∧ Book wr gb A1 nd c1 0 ∧ wr.ownsRow w.heap.size 9 1 (.slice A1 nd c1) nd (txs d) ∧ Cut wr g A l c at2 er ∧
  ((er ≠ 0 ∧ res = .error er) ∨ (er = 0 ∧ nd + k = many ∧ at2 ≤ l ∧ MapT wr gm nd nd (metF d) ∧ takeTexts most k (xs.drop at2) d = res))
set_option maxRecDepth 100000 in
set_option maxHeartbeats 4000000 in
theorem cdic_any (g : Nat) (A : Option Addr) (l c : Nat) (xs : List UInt8) (n : Nat) (most : Int) (w : World) (hb : Cut w g A l c 0 0) (hr : Reads w w.heap.size 1 A l (u8s xs)) (hl : l ≤ c) (hc : c ≤ maxLen) (hg : 0 < l → ∀ ad, A = some ad → ad.block ≠ g) (hn : n ≤ 1048576) (hm : most ≤ 9223372036854775807) :
  Calls Tryz.prog 267 #[.pointer (some ⟨g, 0, none⟩), .int .i64 (n : Int), .int .i64 most] w (Dicted g A l c xs (dictL xs n most) w) := by
 obtain ⟨i0, hi0, hz0, hz1, hz2⟩ := info_parts text_info
 have hgs := get_size xs
 have hrl := reads_len hr
 rw [hrl] at hgs
 have Hrl := Lib.hid hrl
 have hmm := @run_makeMap Tryz.prog
 clear hrl
 go_enter Tryz.func267, Tryz.ntmps267
 go_wp2_with fail
 with_reducible refine (cnum_any g A l c 0 xs _ hb hr hl hc (Nat.zero_le _)).mono ?_
 rintro e w1 ⟨rfl, hb1, hg1⟩
 rw [List.drop_zero, Nat.zero_add] at *
 have hdl : dictL xs n most = dictL xs n most := rfl
 conv at hdl => rhs; unfold dictL
 generalize get xs = r at hgs hb1 hdl ⊢
 obtain ⟨rn, rk, re⟩ := r
 obtain ⟨hk1, hk2, hk3⟩ := hgs
 simp only at hk1 hk2 hk3 hb1 hdl ⊢
 have c2 := hb1.cell 2
 have f2 := hb1.frozen 2
 have hw1 := hg1.size
 by_cases hre : re = 0
 ·subst hre
  rw [if_neg (by simp)] at hdl
  by_cases hlim : n < rn
  ·rw [if_pos hlim] at hdl
   have Hdl := Lib.hid hdl
   have hb1s := hb1.set_ 2 (.int .i64 5)
   have Hb1s := Lib.hid hb1s
   have db0 : decide (0 < rn) = true := by simp; omega
   clear hdl hk3 hb1 hb1s
   go_wp2
   have hw1s : (w1.setCell ⟨g, 2, none⟩ (.int .i64 5)).heap.size = w1.heap.size := by simp
   have hcut := Lib.hid (((Hb1s.out).alloc (.map #[] 0)).alloc (.cells #[.slice none 0 0, .int .i64 0] 333))
   have hbook : Blk ((w1.setCell ⟨g, 2, none⟩ (.int .i64 5) |>.alloc (.map #[] 0)).alloc (.cells #[.slice none 0 0, .int .i64 0] 333)) (w1.heap.size + 1) 333 #[.slice none 0 0, .int .i64 0] := by
    have := Blk.new (w1.setCell ⟨g, 2, none⟩ (.int .i64 5) |>.alloc (.map #[] 0)) 333 #[.slice none 0 0, .int .i64 0]
    simpa using this
   have hgr := hg1.trans (((grown_set w1 g 2 (.int .i64 5)).trans (World.grownBy_alloc _ (.map #[] 0) _)).trans (World.grownBy_alloc _ (.cells #[.slice none 0 0, .int .i64 0] 333) _))
   have Hbook := Lib.hid hbook
   clear hmm hw1s hbook
   go_loopg [] 0 (fun _ wr => w.grownBy wr (some g) ∧ Hid (Cut wr g A l c rk 5) ∧ Hid (Blk wr (w1.heap.size + 1) 333 #[.slice none 0 0, .int .i64 0]))
   case atStart => exact ⟨hgr, hcut, Hbook⟩
   case round =>
    clear hgr hcut Hbook c2 f2
    obtain ⟨hgr, hcut, hbook⟩ := hrel
    have c2 := hcut.out.cell 2
    have b0 := hbook.out.cell 0
    go_wp2
    go_ret
    exact dicted_err Hdl.out (by decide) hgr hcut.out
  ·rw [if_neg hlim] at hdl
   have Hdl := Lib.hid hdl
   have Hb1 := Lib.hid hb1
   clear hdl hk3 hb1
   go_wp2
   have hst0 : InDic g w1.heap.size (w1.heap.size + 1) A l c xs most rn (dictL xs n most) w rn ((w1.alloc (.map #[] 0)).alloc (.cells #[.slice none 0 0, .int .i64 0] 333)) := by
    refine ⟨hg1.trans ((World.grownBy_alloc _ _ _).trans (World.grownBy_alloc _ _ _)), none, 0, 0, rk, 0, [], Nat.zero_le _, ?_, World.ownsRow_nil _ _ _ _, ((Hb1.out).alloc _).alloc _, .inr ⟨rfl, Nat.zero_add _, by omega, ?_, Hdl.out.symm⟩⟩
    ·have h := Blk.new (w1.alloc (.map #[] 0)) 333 #[.slice none 0 0, .int .i64 0]
     have h2 : (w1.alloc (.map #[] 0)).heap.size = w1.heap.size + 1 := by simp
     rw [h2] at h
     exact h
    ·exact (MapS.same (MapS.made w1) (fun s => by rfl)).al _
   have Hst0 := Lib.hid hst0
   have hgm : w.heap.size ≤ w1.heap.size := hw1
   have hgb : w.heap.size ≤ w1.heap.size + 1 := by omega
   generalize (w1.alloc (.map #[] 0)).alloc (.cells #[.slice none 0 0, .int .i64 0] 333) = w2 at Hst0 ⊢
   generalize w1.heap.size + 1 = gb at Hst0 hgb ⊢
   generalize w1.heap.size = gm at Hst0 hgm ⊢
   clear hst0 hmm Hdl c2 f2 hb Hb1 hg1 hw1
   have hrn : rn ≤ 1048576 := by omega
   go_loopg [10] rn (fun k s wr => Hid (InDic g gm gb A l c xs most rn (dictL xs n most) w k wr))
   case atStart => exact Hst0
   case round =>
    obtain ⟨hgr, A1, nd, c1, at2, er, d, hnd, hbook, hown, hcut, hst⟩ := hrel.out
    clear hrel Hst0
    have hgw := hgr.size
    rcases hst with ⟨her, hres⟩ | ⟨rfl, hk, hat2, hmap, hres⟩
    ·have b0 := hbook.cell 0
     have c2 := hcut.cell 2
     have hn : ((er : Int) == 0) = false := by simp; omega
     have Hcut := Lib.hid hcut
     have Hres := Lib.hid hres
     have Her := Lib.hid her
     clear hcut hres her hbook
     by_cases hlt : nd < rn
     ·have db : decide (nd < rn) = true := by simp; omega
      go_wp2
      go_ret
      exact dicted_err Hres.out Her.out hgr Hcut.out
     ·have db : decide (nd < rn) = false := by simp; omega
      go_wp2
      go_ret
      exact dicted_err Hres.out Her.out hgr Hcut.out
    ·have b0 := hbook.cell 0
     have c2 := hcut.cell 2
     have Hcut := Lib.hid hcut
     have Hres := Lib.hid hres
     have Hbook := Lib.hid hbook
     have Hmap := Lib.hid hmap
     have Hdl := Lib.hid (show d.length = nd from by have := hown.1; simpa using this)
     rcases gk with _ | k
     ·clear hcut hres hbook hmap
      have db : decide (nd < rn) = false := by simp; omega
      go_wp2
      go_ret
      obtain ⟨_, _, hv, h1, h2⟩ := own_shape hown
      injection hv with hA hn hc'
      subst hA hc'
      have hre := Hres.out
      rw [takeTexts] at hre
      have hdl := Hdl.out
      subst hdl
      unfold Dicted
      rw [← hre]
      exact ⟨hgr, gb, A1, c1, at2, rfl, hgb, hat2, rfl, Hcut.out, Hbook.out, h1, h2, hown⟩
     ·have db : decide (nd < rn) = true := by simp; omega
      have hr2 := hr.other hgr hg
      have hgne : g ≠ gb := hcut.ne hbook (by decide)
      have hmg : gm ≠ g := hmap.blk hcut
      have hmb : gm ≠ gb := hmap.blk hbook
      clear hcut hres hbook hmap
      go_wp2_with fail
      with_reducible refine (ctext_any g A l c at2 xs most _ Hcut.out hr2 hl hc hat2 hg hm).mono ?_
      rintro e w5 ⟨hg5, h5⟩
      have hgr5 := hgr.trans hg5
      have hbook5 := Hbook.out.other hg5 hgne.symm
      have hown5 := own_grown hown Hcut.out (by decide) hg5
      have hmap5 := Hmap.out.grown hg5 (by simpa using hmg)
      have hres := Hres.out
      rw [takeTexts_succ] at hres
      have hok := takeT_ok most (xs.drop at2)
      have hek := takeT_err most (xs.drop at2)
      rw [List.length_drop, Hrl.out] at hok
      generalize takeT most (xs.drop at2) = tt at h5 hres hok hek
      clear b0 c2 hown Hcut Hbook Hmap Hres hr2
      have hgw5 := hgr5.size
      have Hbook5 := Lib.hid hbook5
      have Hmap5 := Lib.hid hmap5
      have hs1 : nd + 1 ≤ maxLen := by simp only [maxLen]; omega
      have hs2 : (nd + 1) * 16 ≤ 70368744177664 := by omega
      clear hbook5 hmap5 hg5 hgr hgw
      rcases tt with er | ⟨s, ns⟩
      ·obtain ⟨rfl, at3, hat3, hcut5⟩ := h5
       have her := hek er rfl
       have hn : ((er : Int) == 0) = false := by simp; omega
       have Hcut5 := Lib.hid hcut5
       have Hres := Lib.hid (show .error er = dictL xs n most from hres)
       have hss : (⟨#[]⟩ : ByteArray).size ≤ maxLen := by decide
       clear hres hok hek hcut5
       rcases hp : placeL d ⟨#[]⟩ with _ | j
       ·have Hat := Lib.hid (show metF d ⟨#[]⟩ = none from by unfold metF; rw [hp]; rfl)
        clear hp
        go_wp2_with (first
         | (at_lookup; refine wpList_mapS_get rfl _ _ _ rfl Hmap5.out Tryz.underlying3 Tryz.underlying9 Tryz.underlying170 (zero_int _) (⟨#[]⟩ : ByteArray) hss none Hat.out rfl rfl ?_)
         | (at_mapUpdate
            refine wpList_mapS_store rfl _ _ _ _ rfl Hmap5.out Tryz.underlying3 Tryz.underlying9 Tryz.underlying170 (by simp only [maxLen]; omega) (⟨#[]⟩ : ByteArray) hss 1 (by decide) rfl rfl rfl ?_
            intro w6 hmap6 hg6
            rw [Hat.out] at hmap6
            have hlook6 := (hmap6.wf (t := 170) Tryz.underlying3 Tryz.underlying9 Tryz.underlying170 (zero_int _) (⟨#[]⟩ : ByteArray) hss).2
            simp only [if_true, Option.getD_some] at hlook6
            have hcut6 := Hcut5.out.other hg6 hmg.symm
            have hbook6 := Hbook5.out.other hg6 hmb.symm
            have c26 := hcut6.cell 2
            have hown6 := own_map Hmap5.out hown5 hg6
            have hgr6 := grown_below hgr5 (Below.by_ hg6 hgr5.size hgm)
            replace hmap6 := Lib.hid hmap6
            have hgw6 := hgr6.size
            skip
            have hbase6 := hgr6.size
            have b06 := hbook6.cell 0
            have Hcut6 := Lib.hid hcut6
            have Hbook6 := Lib.hid hbook6
            clear hown5 hg6 hgr5 hcut6 hbook6 Hbook5 Hcut5)
         | (at_builtin
            refine wpList_append_any _ rfl (.tmp 70) (.tmp 72) 240 rfl w.heap.size 9 i0 (.string ⟨#[]⟩) 1 16 Tryz.underlying240 hi0 hz0 hz1 hz2 rfl (by decide) A1 nd c1 _ rfl (hown6.alloc _) _ 1 1 [.string (⟨#[]⟩ : ByteArray)] rfl (by first | exact reads_new _ _ _ | exact reads_new_at _ _ _ _ (by simp)) (one_text (⟨#[]⟩ : ByteArray)) hs1 hs2 (by simp; omega) ?_
            intro A3 c3 w7 hown7 hb7 hg7 hc7 hm7
            have hbook7 := (Hbook6.out.alloc (.cells #[.string (⟨#[]⟩ : ByteArray)] 9)).apart (hown6.alloc _) (by decide) hg7
            have hcut7 := (Hcut6.out.alloc (.cells #[.string (⟨#[]⟩ : ByteArray)] 9)).apart (hown6.alloc _) (by decide) hg7
            have hmap7 := (hmap6.out.al (.cells #[.string (⟨#[]⟩ : ByteArray)] 9)).grown hg7 ((hmap6.out.al (.cells #[.string (⟨#[]⟩ : ByteArray)] 9)).apart (hown6.alloc _))
            have hgr7 := grown_below (hgr6.trans (World.grownBy_alloc _ (.cells #[.string (⟨#[]⟩ : ByteArray)] 9) _)) hb7
            have bf7 := hbook7.frozen 0
            have b07 := hbook7.cell 0
            replace hmap7 := Lib.hid hmap7
            replace hcut7 := Lib.hid hcut7
            replace hbook7 := Lib.hid hbook7
            clear hown6 Hbook6 Hcut6 hmap6 hgr6 hg7))
        rw [show txs d ++ [Value.string (⟨#[]⟩ : ByteArray)] = txs (d ++ [(⟨#[]⟩ : ByteArray)]) from by simp [txs]] at hown7
        have hbook8 := hbook7.out.set_ 0 (.slice A3 (nd + 1) c3)
        have hown8 := own_far hown7 hbook7.out (by decide) 0 (.slice A3 (nd + 1) c3)
        have hcut8 := hcut7.out.far (p := ⟨gb, 0, none⟩) hgne (.slice A3 (nd + 1) c3)
        have hmap8 := hmap7.out.set (a := ⟨gb, 0, none⟩) hmb (.slice A3 (nd + 1) c3)
        have hgr8 := grown_below hgr7 ((Below.refl _ w7).setCell (p := ⟨gb, 0, none⟩) hgb (.slice A3 (nd + 1) c3))
        clear hown7 hbook7 hcut7 hmap7 hgr7
        go_roundg k
        case measure => omega
        case rel => exact Lib.hid ⟨hgr8, A3, nd + 1, c3, at3, er, _, by omega, hbook8, hown8, hcut8, .inl ⟨by omega, Hres.out.symm⟩⟩
       ·have Hat := Lib.hid (show metF d ⟨#[]⟩ = some 1 from by unfold metF; rw [hp]; rfl)
        clear hp
        go_wp2_with (first
         | (at_lookup; refine wpList_mapS_get rfl _ _ _ rfl Hmap5.out Tryz.underlying3 Tryz.underlying9 Tryz.underlying170 (zero_int _) (⟨#[]⟩ : ByteArray) hss (some 1) Hat.out rfl rfl ?_)
         | (at_mapUpdate
            refine wpList_mapS_store rfl _ _ _ _ rfl Hmap5.out Tryz.underlying3 Tryz.underlying9 Tryz.underlying170 (by simp only [maxLen]; omega) (⟨#[]⟩ : ByteArray) hss 2 (by decide) rfl rfl rfl ?_
            intro w6 hmap6 hg6
            rw [Hat.out] at hmap6
            have hlook6 := (hmap6.wf (t := 170) Tryz.underlying3 Tryz.underlying9 Tryz.underlying170 (zero_int _) (⟨#[]⟩ : ByteArray) hss).2
            simp only [if_true, Option.getD_some] at hlook6
            have hcut6 := Hcut5.out.other hg6 hmg.symm
            have hbook6 := Hbook5.out.other hg6 hmb.symm
            have c26 := hcut6.cell 2
            have hown6 := own_map Hmap5.out hown5 hg6
            have hgr6 := grown_below hgr5 (Below.by_ hg6 hgr5.size hgm)
            replace hmap6 := Lib.hid hmap6
            have hgw6 := hgr6.size
            skip
            have hbase6 := hgr6.size
            have b06 := hbook6.cell 0
            have Hcut6 := Lib.hid hcut6
            have Hbook6 := Lib.hid hbook6
            clear hown5 hg6 hgr5 hcut6 hbook6 Hbook5 Hcut5)
         | (at_builtin
            refine wpList_append_any _ rfl (.tmp 70) (.tmp 72) 240 rfl w.heap.size 9 i0 (.string ⟨#[]⟩) 1 16 Tryz.underlying240 hi0 hz0 hz1 hz2 rfl (by decide) A1 nd c1 _ rfl (hown6.alloc _) _ 1 1 [.string (⟨#[]⟩ : ByteArray)] rfl (by first | exact reads_new _ _ _ | exact reads_new_at _ _ _ _ (by simp)) (one_text (⟨#[]⟩ : ByteArray)) hs1 hs2 (by simp; omega) ?_
            intro A3 c3 w7 hown7 hb7 hg7 hc7 hm7
            have hbook7 := (Hbook6.out.alloc (.cells #[.string (⟨#[]⟩ : ByteArray)] 9)).apart (hown6.alloc _) (by decide) hg7
            have hcut7 := (Hcut6.out.alloc (.cells #[.string (⟨#[]⟩ : ByteArray)] 9)).apart (hown6.alloc _) (by decide) hg7
            have hmap7 := (hmap6.out.al (.cells #[.string (⟨#[]⟩ : ByteArray)] 9)).grown hg7 ((hmap6.out.al (.cells #[.string (⟨#[]⟩ : ByteArray)] 9)).apart (hown6.alloc _))
            have hgr7 := grown_below (hgr6.trans (World.grownBy_alloc _ (.cells #[.string (⟨#[]⟩ : ByteArray)] 9) _)) hb7
            have bf7 := hbook7.frozen 0
            have b07 := hbook7.cell 0
            replace hmap7 := Lib.hid hmap7
            replace hcut7 := Lib.hid hcut7
            replace hbook7 := Lib.hid hbook7
            clear hown6 Hbook6 Hcut6 hmap6 hgr6 hg7))
        rw [show txs d ++ [Value.string (⟨#[]⟩ : ByteArray)] = txs (d ++ [(⟨#[]⟩ : ByteArray)]) from by simp [txs]] at hown7
        have hbook8 := hbook7.out.set_ 0 (.slice A3 (nd + 1) c3)
        have hown8 := own_far hown7 hbook7.out (by decide) 0 (.slice A3 (nd + 1) c3)
        have hcut8 := hcut7.out.far (p := ⟨gb, 0, none⟩) hgne (.slice A3 (nd + 1) c3)
        have hmap8 := hmap7.out.set (a := ⟨gb, 0, none⟩) hmb (.slice A3 (nd + 1) c3)
        have hgr8 := grown_below hgr7 ((Below.refl _ w7).setCell (p := ⟨gb, 0, none⟩) hgb (.slice A3 (nd + 1) c3))
        clear hown7 hbook7 hcut7 hmap7 hgr7
        go_roundg k
        case measure => omega
        case rel => exact Lib.hid ⟨hgr8, A3, nd + 1, c3, at3, er, _, by omega, hbook8, hown8, hcut8, .inl ⟨by omega, Hres.out.symm⟩⟩
      ·obtain ⟨rfl, hcut5⟩ := h5
       obtain ⟨hok1, hok2⟩ := hok s ns rfl
       have hss : s.size ≤ maxLen := by unfold maxLen at hc ⊢; omega
       have Hcut5 := Lib.hid hcut5
       clear hok hek hcut5
       rcases hp : placeL d s with _ | j
       ·have hres2 : takeTexts most k (xs.drop (at2 + ns)) (d ++ [s]) = dictL xs n most := by
         rw [← hres]
         simp only [hp, Option.isSome_none, if_false, Bool.false_eq_true, List.drop_drop]
        have Hres := Lib.hid hres2
        have Hat := Lib.hid (show metF d s = none from by unfold metF; rw [hp]; rfl)
        have Hput := Lib.hid (metF_put d s)
        clear hp hres hres2
        go_wp2_with (first
         | (at_lookup; refine wpList_mapS_get rfl _ _ _ rfl Hmap5.out Tryz.underlying3 Tryz.underlying9 Tryz.underlying170 (zero_int _) s hss none Hat.out rfl rfl ?_)
         | (at_mapUpdate
            refine wpList_mapS_store rfl _ _ _ _ rfl Hmap5.out Tryz.underlying3 Tryz.underlying9 Tryz.underlying170 (by simp only [maxLen]; omega) s hss 1 (by decide) rfl rfl rfl ?_
            intro w6 hmap6 hg6
            rw [Hat.out] at hmap6
            have hlook6 := (hmap6.wf (t := 170) Tryz.underlying3 Tryz.underlying9 Tryz.underlying170 (zero_int _) s hss).2
            simp only [if_true, Option.getD_some] at hlook6
            have hcut6 := Hcut5.out.other hg6 hmg.symm
            have hbook6 := Hbook5.out.other hg6 hmb.symm
            have c26 := hcut6.cell 2
            have hown6 := own_map Hmap5.out hown5 hg6
            have hgr6 := grown_below hgr5 (Below.by_ hg6 hgr5.size hgm)
            replace hmap6 := Lib.hid hmap6
            have hgw6 := hgr6.size
            skip
            have hbase6 := hgr6.size
            have b06 := hbook6.cell 0
            have Hcut6 := Lib.hid hcut6
            have Hbook6 := Lib.hid hbook6
            clear hown5 hg6 hgr5 hcut6 hbook6 Hbook5 Hcut5)
         | (at_builtin
            refine wpList_append_any _ rfl (.tmp 70) (.tmp 72) 240 rfl w.heap.size 9 i0 (.string ⟨#[]⟩) 1 16 Tryz.underlying240 hi0 hz0 hz1 hz2 rfl (by decide) A1 nd c1 _ rfl (hown6.alloc _) _ 1 1 [.string s] rfl (by first | exact reads_new _ _ _ | exact reads_new_at _ _ _ _ (by simp)) (one_text s) hs1 hs2 (by simp; omega) ?_
            intro A3 c3 w7 hown7 hb7 hg7 hc7 hm7
            have hbook7 := (Hbook6.out.alloc (.cells #[.string s] 9)).apart (hown6.alloc _) (by decide) hg7
            have hcut7 := (Hcut6.out.alloc (.cells #[.string s] 9)).apart (hown6.alloc _) (by decide) hg7
            have hmap7 := (hmap6.out.al (.cells #[.string s] 9)).grown hg7 ((hmap6.out.al (.cells #[.string s] 9)).apart (hown6.alloc _))
            have hgr7 := grown_below (hgr6.trans (World.grownBy_alloc _ (.cells #[.string s] 9) _)) hb7
            have bf7 := hbook7.frozen 0
            have b07 := hbook7.cell 0
            replace hmap7 := Lib.hid hmap7
            replace hcut7 := Lib.hid hcut7
            replace hbook7 := Lib.hid hbook7
            clear hown6 Hbook6 Hcut6 hmap6 hgr6 hg7))
        rw [show txs d ++ [Value.string s] = txs (d ++ [s]) from by simp [txs]] at hown7
        have hbook8 := hbook7.out.set_ 0 (.slice A3 (nd + 1) c3)
        have hown8 := own_far hown7 hbook7.out (by decide) 0 (.slice A3 (nd + 1) c3)
        have hcut8 := hcut7.out.far (p := ⟨gb, 0, none⟩) hgne (.slice A3 (nd + 1) c3)
        have hmap8 := hmap7.out.set (a := ⟨gb, 0, none⟩) hmb (.slice A3 (nd + 1) c3)
        have hgr8 := grown_below hgr7 ((Below.refl _ w7).setCell (p := ⟨gb, 0, none⟩) hgb (.slice A3 (nd + 1) c3))
        clear hown7 hbook7 hcut7 hmap7 hgr7
        go_roundg k
        case measure => omega
        case rel => exact Lib.hid ⟨hgr8, A3, nd + 1, c3, at2 + ns, 0, _, by omega, hbook8, hown8, hcut8, .inr ⟨rfl, by omega, by omega, MapS.same hmap8 (fun r => Hput.out r), Hres.out⟩⟩
       ·have hres2 : dictL xs n most = .error 150 := by
         rw [← hres]
         simp only [hp, Option.isSome_some, if_true]
        have Hres := Lib.hid hres2
        have Hat := Lib.hid (show metF d s = some 1 from by unfold metF; rw [hp]; rfl)
        clear hp hres hres2
        go_wp2_with (first
         | (at_lookup; refine wpList_mapS_get rfl _ _ _ rfl Hmap5.out Tryz.underlying3 Tryz.underlying9 Tryz.underlying170 (zero_int _) s hss (some 1) Hat.out rfl rfl ?_)
         | (at_mapUpdate
            refine wpList_mapS_store rfl _ _ _ _ rfl Hmap5.out Tryz.underlying3 Tryz.underlying9 Tryz.underlying170 (by simp only [maxLen]; omega) s hss 2 (by decide) rfl rfl rfl ?_
            intro w6 hmap6 hg6
            rw [Hat.out] at hmap6
            have hlook6 := (hmap6.wf (t := 170) Tryz.underlying3 Tryz.underlying9 Tryz.underlying170 (zero_int _) s hss).2
            simp only [if_true, Option.getD_some] at hlook6
            have hcut6 := Hcut5.out.other hg6 hmg.symm
            have hbook6 := Hbook5.out.other hg6 hmb.symm
            have c26 := hcut6.cell 2
            have hown6 := own_map Hmap5.out hown5 hg6
            have hgr6 := grown_below hgr5 (Below.by_ hg6 hgr5.size hgm)
            replace hmap6 := Lib.hid hmap6
            have hgw6 := hgr6.size
            have f26 := hcut6.frozen 2; replace hbook6 := hbook6.far (p := ⟨g, 2, none⟩) hgne.symm (.int .i64 150); replace hown6 := own_far hown6 hcut6 (by decide) 2 (.int .i64 150); replace hmap6 := Lib.hid (hmap6.out.set (a := ⟨g, 2, none⟩) hmg (.int .i64 150)); replace hgr6 := hgr6.trans (grown_set w6 g 2 (.int .i64 150)); replace hcut6 := hcut6.set_ 2 (.int .i64 150)
            have hbase6 := hgr6.size
            have b06 := hbook6.cell 0
            have Hcut6 := Lib.hid hcut6
            have Hbook6 := Lib.hid hbook6
            clear hown5 hg6 hgr5 hcut6 hbook6 Hbook5 Hcut5)
         | (at_builtin
            refine wpList_append_any _ rfl (.tmp 70) (.tmp 72) 240 rfl w.heap.size 9 i0 (.string ⟨#[]⟩) 1 16 Tryz.underlying240 hi0 hz0 hz1 hz2 rfl (by decide) A1 nd c1 _ rfl (hown6.alloc _) _ 1 1 [.string s] rfl (by first | exact reads_new _ _ _ | exact reads_new_at _ _ _ _ (by simp)) (one_text s) hs1 hs2 (by simp; omega) ?_
            intro A3 c3 w7 hown7 hb7 hg7 hc7 hm7
            have hbook7 := (Hbook6.out.alloc (.cells #[.string s] 9)).apart (hown6.alloc _) (by decide) hg7
            have hcut7 := (Hcut6.out.alloc (.cells #[.string s] 9)).apart (hown6.alloc _) (by decide) hg7
            have hmap7 := (hmap6.out.al (.cells #[.string s] 9)).grown hg7 ((hmap6.out.al (.cells #[.string s] 9)).apart (hown6.alloc _))
            have hgr7 := grown_below (hgr6.trans (World.grownBy_alloc _ (.cells #[.string s] 9) _)) hb7
            have bf7 := hbook7.frozen 0
            have b07 := hbook7.cell 0
            replace hmap7 := Lib.hid hmap7
            replace hcut7 := Lib.hid hcut7
            replace hbook7 := Lib.hid hbook7
            clear hown6 Hbook6 Hcut6 hmap6 hgr6 hg7))
        rw [show txs d ++ [Value.string s] = txs (d ++ [s]) from by simp [txs]] at hown7
        have hbook8 := hbook7.out.set_ 0 (.slice A3 (nd + 1) c3)
        have hown8 := own_far hown7 hbook7.out (by decide) 0 (.slice A3 (nd + 1) c3)
        have hcut8 := hcut7.out.far (p := ⟨gb, 0, none⟩) hgne (.slice A3 (nd + 1) c3)
        have hmap8 := hmap7.out.set (a := ⟨gb, 0, none⟩) hmb (.slice A3 (nd + 1) c3)
        have hgr8 := grown_below hgr7 ((Below.refl _ w7).setCell (p := ⟨gb, 0, none⟩) hgb (.slice A3 (nd + 1) c3))
        clear hown7 hbook7 hcut7 hmap7 hgr7
        go_roundg k
        case measure => omega
        case rel => exact Lib.hid ⟨hgr8, A3, nd + 1, c3, at2 + ns, 150, _, by omega, hbook8, hown8, hcut8, .inl ⟨by decide, Hres.out⟩⟩
 ·rw [if_pos hre] at hdl
  obtain ⟨rfl, rfl⟩ := hk3 hre
  have hn : ((re : Int) == 0) = false := by simp; omega
  have hn2 : ((re : Int) != 0) = true := by simp; omega
  have Hdl := Lib.hid hdl
  have Hb1 := Lib.hid hb1
  have Hre := Lib.hid hre
  clear hdl hk3 hb1 hre
  go_wp2
  have hcut := Lib.hid (((Hb1.out).alloc (.map #[] 0)).alloc (.cells #[.slice none 0 0, .int .i64 0] 333))
  have hbook : Blk ((w1.alloc (.map #[] 0)).alloc (.cells #[.slice none 0 0, .int .i64 0] 333)) (w1.heap.size + 1) 333 #[.slice none 0 0, .int .i64 0] := by
   have := Blk.new (w1.alloc (.map #[] 0)) 333 #[.slice none 0 0, .int .i64 0]
   simpa using this
  have hgr := hg1.trans ((World.grownBy_alloc _ (.map #[] 0) _).trans (World.grownBy_alloc _ (.cells #[.slice none 0 0, .int .i64 0] 333) _))
  have Hbook := Lib.hid hbook
  clear hmm hbook
  go_loopg [] 0 (fun _ wr => w.grownBy wr (some g) ∧ Hid (Cut wr g A l c 0 re) ∧ Hid (Blk wr (w1.heap.size + 1) 333 #[.slice none 0 0, .int .i64 0]))
  case atStart => exact ⟨hgr, hcut, Hbook⟩
  case round =>
   clear hgr hcut Hbook c2 f2
   obtain ⟨hgr, hcut, hbook⟩ := hrel
   have c2 := hcut.out.cell 2
   have b0 := hbook.out.cell 0
   go_wp2
   go_ret
   exact dicted_err Hdl.out Hre.out hgr hcut.out
end Go.Proofs.YtjpjalmilfgckaaGreatDoor
