/- Part 20 of the walks, merged: each text under its own heading. Conditions: none of its own; each lemma states what it asks. -/
import Derived.Test.YtdajddkbkbnoiaaGreatDoorBp19
import Derived.Lib.LaidU8T
import Derived.OpenShut
set_option linter.unusedVariables false
set_option linter.unusedSimpArgs false
namespace Go.Proofs.YtdajddkbkbnoiaaGreatDoor
open Go.RowKit
theorem Blk.readsN {w : World} {g : Nat} {t : TypeId} {cs : Array Value} (h : Blk w g t cs) (size n : Nat) (xs : List Value) (hx : cs.toList = xs) (hn : xs.length = n * size) : Reads w w.heap.size size (some ⟨g, 0, none⟩) n xs := by
  refine ⟨hn, fun _ => ⟨_, rfl, h.lt, fun j u hu => ?_⟩⟩
  have hadd : (⟨g, 0, none⟩ : Addr).add j = ⟨g, j, none⟩ := by unfold Addr.add; split <;> simp_all
  rw [hadd, h.cell]
  rw [← hx] at hu
  simpa using hu
theorem items_one {w : World} {g : Nat} {A : Option Addr} {n c : Nat} {r : List Cl} {x : Int} (hb : Blk w g 65 #[.slice A n c, .int .i64 x]) (hr : Reads w w.heap.size 3 A n (cls r)) (hn : n ≤ c) (hc : c ≤ maxLen) :
    ItemsAt w w.heap.size (some ⟨g, 0, none⟩) 1 [(r, x)] :=
  ⟨[(A, n, c)], hb.readsN 2 1 _ rfl rfl, RowsAt.nil.snoc (h := (A, n, c)) (it := (r, x)) hr hn hc⟩
def rowW : List Cl := [(false, 1, ⟨#[]⟩), (false, 0, ⟨#[97]⟩)]
def row2W : List Cl := [(false, -2, ⟨#[]⟩), (false, 0, ⟨#[97]⟩)]
def itW : List It := [(rowW, 1), (row2W, -1)]
def hdW : List UInt8 := [77, 83, 1, 3, 172, 2, 2, 2, 3, 1, 1, 97, 0, 0, 2, 1]
def xW : List UInt8 := [77, 83, 1, 3, 172, 2, 2, 2, 3, 1, 1, 97, 0, 0, 2, 1, 119, 82, 65, 129]
def yW : List UInt8 := [77, 83, 1, 0, 0, 0, 0, 254, 182, 226, 128]
theorem xW_enc : encA twoC (3, 300, itW) = xW := by kernel_rfl
theorem yW_enc : encA twoC (0, 0, []) = yW := by kernel_rfl
theorem okB_it (l : List It) (h : (l.all fun it => okB it.1 && decide (-9223372036854775808 ≤ it.2) && decide (it.2 ≤ 9223372036854775807)) = true) : ItOk l := by
  intro it hit
  have := List.all_eq_true.1 h it hit
  simp only [Bool.and_eq_true, decide_eq_true_eq] at this
  exact ⟨ok_of _ this.1.1, this.1.2, this.2⟩
theorem baOk_of {v s : Int} {l : List It} (hs : s ≤ 9223372036854775807) (h : ItOk l) : BaOk (v, s, l) := ⟨hs, fun it hit => (h it hit).2⟩
theorem itW_ok : ItOk itW := okB_it _ (by kernel_rfl)
structure WkB (w : World) (A : Option Addr) (c h : Nat) (wc : World) : Prop where
  below : Below w.heap.size w wc
  items : ItemsAt wc wc.heap.size (some ⟨w.heap.size + 2, 0, none⟩) 2 itW
  blk : Blk wc (w.heap.size + 3) 25 #[.int .i64 3, .int .i64 300, .slice (some ⟨w.heap.size + 2, 0, none⟩) 2 2]
  its_ : Blk wc (w.heap.size + 2) 65 #[.slice (some ⟨w.heap.size, 0, none⟩) 2 2, .int .i64 1, .slice (some ⟨w.heap.size + 1, 0, none⟩) 2 2, .int .i64 (-1)]
  row : Reads wc wc.heap.size 3 (some ⟨w.heap.size, 0, none⟩) 2 (cls rowW)
  x : Reads wc wc.heap.size 1 A 20 (u8s xW)
  cap : 20 ≤ c ∧ c ≤ maxLen
  head : Reads wc wc.heap.size 1 (some ⟨h, 0, none⟩) 16 (u8s hdW)
  tab : Tab2 wc.heap.size wc
theorem WkB.on {w wc w' : World} {A : Option Addr} {c h : Nat} (H : WkB w A c h wc) (hb : Below wc.heap.size wc w') : WkB w A c h w' :=
  ⟨bon H.below hb, H.items.on hb, H.blk.on hb, H.its_.on hb, H.row.on hb, H.x.on hb, H.cap, H.head.on hb, H.tab.on hb⟩
theorem WkB.al {w wc : World} {A : Option Addr} {c h : Nat} (H : WkB w A c h wc) (o : Obj) : WkB w A c h (wc.alloc o) := H.on (bal (Below.refl _ _) o)
theorem wk_mem (w : World) : ∀ W, W = (((w.alloc (.cells #[.bool false, .int .i64 1, .string ⟨#[]⟩, .bool false, .int .i64 0, .string ⟨#[97]⟩] 60)).alloc (.cells #[.bool false, .int .i64 (-2), .string ⟨#[]⟩, .bool false, .int .i64 0, .string ⟨#[97]⟩] 60)).alloc (.cells #[.slice (some ⟨w.heap.size, 0, none⟩) 2 2, .int .i64 1, .slice (some ⟨w.heap.size + 1, 0, none⟩) 2 2, .int .i64 (-1)] 65)).alloc (.cells #[.int .i64 3, .int .i64 300, .slice (some ⟨w.heap.size + 2, 0, none⟩) 2 2] 25) →
    Below w.heap.size w W ∧ ItemsAt W W.heap.size (some ⟨w.heap.size + 2, 0, none⟩) 2 itW ∧ Blk W (w.heap.size + 3) 25 #[.int .i64 3, .int .i64 300, .slice (some ⟨w.heap.size + 2, 0, none⟩) 2 2] ∧
    Blk W (w.heap.size + 2) 65 #[.slice (some ⟨w.heap.size, 0, none⟩) 2 2, .int .i64 1, .slice (some ⟨w.heap.size + 1, 0, none⟩) 2 2, .int .i64 (-1)] ∧ Reads W W.heap.size 3 (some ⟨w.heap.size, 0, none⟩) 2 (cls rowW) := by
  intro W hW
  obtain ⟨W1, h1⟩ : ∃ W1, W1 = w.alloc (.cells #[.bool false, .int .i64 1, .string ⟨#[]⟩, .bool false, .int .i64 0, .string ⟨#[97]⟩] 60) := ⟨_, rfl⟩
  obtain ⟨W2, h2⟩ : ∃ W2, W2 = W1.alloc (.cells #[.bool false, .int .i64 (-2), .string ⟨#[]⟩, .bool false, .int .i64 0, .string ⟨#[97]⟩] 60) := ⟨_, rfl⟩
  obtain ⟨W3, h3⟩ : ∃ W3, W3 = W2.alloc (.cells #[.slice (some ⟨w.heap.size, 0, none⟩) 2 2, .int .i64 1, .slice (some ⟨w.heap.size + 1, 0, none⟩) 2 2, .int .i64 (-1)] 65) := ⟨_, rfl⟩
  rw [← h1, ← h2, ← h3] at hW
  have s1 : W1.heap.size = w.heap.size + 1 := by rw [h1]; simp
  have s2 : W2.heap.size = w.heap.size + 2 := by rw [h2]; simp [s1]
  have s3 : W3.heap.size = w.heap.size + 3 := by rw [h3]; simp [s2]
  have B1 : Blk W1 w.heap.size 60 #[.bool false, .int .i64 1, .string ⟨#[]⟩, .bool false, .int .i64 0, .string ⟨#[97]⟩] := by rw [h1]; exact Blk.new _ _ _
  have B2 : Blk W2 (w.heap.size + 1) 60 #[.bool false, .int .i64 (-2), .string ⟨#[]⟩, .bool false, .int .i64 0, .string ⟨#[97]⟩] := by rw [h2, ← s1]; exact Blk.new _ _ _
  have B3 : Blk W3 (w.heap.size + 2) 65 #[.slice (some ⟨w.heap.size, 0, none⟩) 2 2, .int .i64 1, .slice (some ⟨w.heap.size + 1, 0, none⟩) 2 2, .int .i64 (-1)] := by rw [h3, ← s2]; exact Blk.new _ _ _
  have B4 : Blk W (w.heap.size + 3) 25 #[.int .i64 3, .int .i64 300, .slice (some ⟨w.heap.size + 2, 0, none⟩) 2 2] := by rw [hW, ← s3]; exact Blk.new _ _ _
  have b3 : Below W3.heap.size W3 W := by rw [hW]; exact bal (Below.refl _ _) _
  have b2 : Below W2.heap.size W2 W := bon (by rw [h3]; exact bal (Below.refl _ _) _) b3
  have b1 : Below W1.heap.size W1 W := bon (by rw [h2]; exact bal (Below.refl _ _) _) b2
  have b0 : Below w.heap.size w W := bon (by rw [h1]; exact bal (Below.refl _ _) _) b1
  have r1 := (B1.on b1).readsN 3 2 (cls rowW) rfl rfl
  have r2 := (B2.on b2).readsN 3 2 (cls row2W) rfl rfl
  refine ⟨b0, ⟨[(some ⟨w.heap.size, 0, none⟩, 2, 2), (some ⟨w.heap.size + 1, 0, none⟩, 2, 2)], (B3.on b3).readsN 2 2 _ rfl rfl, ?_⟩, B4, B3.on b3, r1⟩
  exact (RowsAt.nil.snoc (h := (some ⟨w.heap.size, 0, none⟩, 2, 2)) (it := (rowW, 1)) r1 (Nat.le_refl 2) (show 2 ≤ maxLen by decide)).snoc (h := (some ⟨w.heap.size + 1, 0, none⟩, 2, 2)) (it := (row2W, -1)) r2 (Nat.le_refl 2) (show 2 ≤ maxLen by decide)
theorem decW1 : decB twoC [] = .error 3 := by kernel_rfl
theorem decW2 : decB twoC [0, 0, 0, 0] = .error 171 := by kernel_rfl
theorem decW3 : decB twoC ([77, 83, 2] ++ sumB (crcS [77, 83, 2])) = .error 171 := by kernel_rfl
theorem decW4 : decB twoC ([77, 83, 1] ++ sumB (crcS [77, 83, 1])) = .error 3 := by kernel_rfl
theorem decW5 : decB twoC ((hdW ++ [0]) ++ sumB (crcS (hdW ++ [0]))) = .error 30 := by kernel_rfl
theorem decW6 : decB twoC (xW.set 19 193) = .error 170 := by kernel_rfl
theorem decW7 : decB twoC xW = .ok (3, 300, itW) := by kernel_rfl
theorem pkW : pkV (batD xW) = (0, 3, 300, 2) := by kernel_rfl
set_option maxRecDepth 100000 in
set_option maxHeartbeats 4000000 in
theorem bworks_yes (w : World) (hT : Tab2 w.heap.size w) : Calls Tryz.prog 45 #[] w fun e w' => e = .returned (.bool true) ∧ Below w.heap.size w w' := by
  have HT := Lib.hid hT
  have Hm := Lib.hid (wk_mem w)
  obtain ⟨i0, hi0, hz0, hz1, hz2⟩ := info_parts u8_info
  clear hT
  go_enter Tryz.func45, Tryz.ntmps45
  go_wp2
  rw [show w.heap.size + 1 + 1 + 1 = w.heap.size + 3 from rfl, show w.heap.size + 1 + 1 = w.heap.size + 2 from rfl]
  generalize hW : ((((w.alloc (.cells #[.bool false, .int .i64 1, .string ⟨#[]⟩, .bool false, .int .i64 0, .string ⟨#[97]⟩] 60)).alloc (.cells #[.bool false, .int .i64 (-2), .string ⟨#[]⟩, .bool false, .int .i64 0, .string ⟨#[97]⟩] 60)).alloc (.cells #[.slice (some ⟨w.heap.size, 0, none⟩) 2 2, .int .i64 1, .slice (some ⟨w.heap.size + 1, 0, none⟩) 2 2, .int .i64 (-1)] 65)).alloc (.cells #[.int .i64 3, .int .i64 300, .slice (some ⟨w.heap.size + 2, 0, none⟩) 2 2] 25)) = W
  obtain ⟨m1, m2, m3, m4, m5⟩ := Hm.out W hW.symm
  have M1 := Lib.hid m1
  have M2 := Lib.hid m2
  have M3 := Lib.hid m3
  have M4 := Lib.hid m4
  have M5 := Lib.hid m5
  have HTW := Lib.hid (HT.out.on m1)
  clear m1 m2 m3 m4 m5 hW Hm
  have HL0 := Lib.hid (show ∀ w', Below W.heap.size W w' → w'.cell? ⟨w.heap.size + 3, 0, none⟩ = some (.int .i64 3) from fun w' h => (M3.out.on h).cell 0)
  have HL1 := Lib.hid (show ∀ w', Below W.heap.size W w' → w'.cell? ⟨w.heap.size + 3, 1, none⟩ = some (.int .i64 300) from fun w' h => (M3.out.on h).cell 1)
  have HL2 := Lib.hid (show ∀ w', Below W.heap.size W w' → w'.cell? ⟨w.heap.size + 3, 2, none⟩ = some (.slice (some ⟨w.heap.size + 2, 0, none⟩) 2 2) from fun w' h => (M3.out.on h).cell 2)
  have hS : Below W.heap.size W W.drew := (Below.refl _ _).drew
  refine wp_region_keep (fun w' => Below W.heap.size W w') [(1, false), (0, true), (2, true), (3, false), (4, false), (5, false), (6, false), (7, false)] (by kernel_rfl) (by kernel_rfl) (by kernel_rfl) (fun d _ _ _ _ h => by cases d <;> exact h) ?_
  refine held_pure (v := ?_) rfl rfl (by simp [Region.wanted, yielded]) hS ?_ ?_
  rotate_left
  · intro w hw; have c0 := HL0.out w hw; have c1 := HL1.out w hw; have c2 := HL2.out w hw; clear hw; go_simp; try with_reducible rfl
  try simp only [Act.put, List.setIfInBounds_toArray, List.set_cons_succ, List.set_cons_zero]
  refine held_eff1 rfl (by simp [Region.wanted, yielded]) fun K hK => ?_
  go_simp
  with_reducible refine (two_any _).mono ?_
  rintro e w2 ⟨rfl, hr, hb2⟩
  have HS2 := Lib.hid (bon hS hb2)
  have HR := Lib.hid (show Reads w2 w2.heap.size 7 (some ⟨W.heap.size, 0, none⟩) 2 (cos twoC) from hr)
  clear hr hb2
  refine held_go hK (by exact HS2.out) fun hS => ?_
  clear hK K
  try simp only [Act.put, List.setIfInBounds_toArray, List.set_cons_succ, List.set_cons_zero]
  refine held_eff1 rfl (by simp [Region.wanted, yielded]) fun K hK => ?_
  go_simp
  with_reducible refine (benc_any (some ⟨W.heap.size, 0, none⟩) 2 2 twoC 3 300 (some ⟨w.heap.size + 2, 0, none⟩) 2 2 itW _ HR.out (by decide) (M2.out.on HS2.out) (by decide) (baOk_of (by decide) itW_ok) itW_ok (HTW.out.on HS2.out)).mono ?_
  rw [xW_enc]
  rintro e w3 ⟨hb3, ⟨-, Ax, cx, rfl, ho⟩ | ⟨h0, -⟩⟩
  case inr => exact absurd (by kernel_rfl) h0
  have HX := Lib.hid (own_reads ho)
  have HCx := Lib.hid (own_caps ho)
  have HS3 := Lib.hid (bon HS2.out hb3)
  clear hb3 ho
  rw [show xW.length = 20 from rfl] at *
  refine held_go hK (by exact HS3.out) fun hS => ?_
  clear hK K
  try simp only [Act.put, List.setIfInBounds_toArray, List.set_cons_succ, List.set_cons_zero]
  iterate 5
    refine held_pure (v := ?_) rfl rfl (by simp [Region.wanted, yielded]) hS ?_ ?_
    rotate_left
    · intro w hw; go_simp; try with_reducible rfl
    try simp only [Act.put, List.setIfInBounds_toArray, List.set_cons_succ, List.set_cons_zero]
  refine held_end ?_
  have HK := Lib.hid (show ∀ w', Below w3.heap.size w3 w' → ∀ h, Reads w' w'.heap.size 1 (some ⟨h, 0, none⟩) 16 (u8s hdW) → WkB w Ax cx h w' from fun w' hb h hh => by
    have hWw := bon HS3.out hb
    exact ⟨bon M1.out hWw, M2.out.on hWw, M3.out.on hWw, M4.out.on hWw, M5.out.on hWw, HX.out.on hb, HCx.out, hh, HTW.out.on hWw⟩)
  clear M1 M2 M3 M4 M5 HS2 HR HL0 HL1 HL2 hS HX HCx HTW
  go_wp2_with fail
  have H := Lib.hid (HK.out _ (bal (Below.refl w3.heap.size w3) (.cells #[.int .u8 77, .int .u8 83, .int .u8 1, .int .u8 3, .int .u8 172, .int .u8 2, .int .u8 2, .int .u8 2, .int .u8 3, .int .u8 1, .int .u8 1, .int .u8 97, .int .u8 0, .int .u8 0, .int .u8 2, .int .u8 1] 5)) w3.heap.size (by exact reads_lit _ _ _ _ _ _ rfl rfl rfl))
  clear HK
  with_reducible refine (summed_any (some ⟨w3.heap.size, 0, none⟩) 16 16 hdW _ H.out.head (by decide) H.out.tab.ctab).mono ?_
  rintro e w4 ⟨A4, c4, rfl, -, -, q3, q4⟩
  have H := Lib.hid (H.out.on q4)
  have HQ := Lib.hid (own_reads q3)
  clear q3 q4
  go_wp2_with fail
  with_reducible refine (eq_yes Ax A4 20 cx 20 c4 xW (hdW ++ sumB (crcS hdW)) _ H.out.x HQ.out (by kernel_rfl)).mono ?_
  rintro e w5 ⟨rfl, rfl⟩
  clear HQ
  generalize w3.heap.size = hh at *
  go_wp2_with fail
  with_reducible refine (two_any _).mono ?_
  rintro e w6 ⟨rfl, hr, hb⟩
  have H := Lib.hid (H.out.on hb)
  have HR := Lib.hid hr
  clear hr hb
  go_wp2_with fail
  with_reducible refine (benc_any (some ⟨w4.heap.size, 0, none⟩) 2 2 twoC 0 0 none 0 0 [] _ HR.out (by decide) ItemsAt.nil (by decide) (baOk_of (by decide) (by simp [ItOk])) (by simp [ItOk]) H.out.tab).mono ?_
  rw [yW_enc]
  rintro e w7 ⟨hb7, ⟨-, Ay, cy, rfl, ho⟩ | ⟨h0, -⟩⟩
  case inr => exact absurd (by kernel_rfl) h0
  have H := Lib.hid (H.out.on hb7)
  have HY := Lib.hid (own_reads ho)
  clear hb7 ho HR
  rw [show yW.length = 11 from rfl] at *
  go_wp2_with fail
  have HY := Lib.hid (HY.out.al (.cells #[.int .u8 77, .int .u8 83, .int .u8 1, .int .u8 0, .int .u8 0, .int .u8 0, .int .u8 0] 5))
  have H := Lib.hid (H.out.al (.cells #[.int .u8 77, .int .u8 83, .int .u8 1, .int .u8 0, .int .u8 0, .int .u8 0, .int .u8 0] 5))
  with_reducible refine (summed_any (some ⟨w7.heap.size, 0, none⟩) 7 7 [77, 83, 1, 0, 0, 0, 0] _ (by exact reads_lit _ _ _ _ _ _ rfl rfl rfl) (by decide) H.out.tab.ctab).mono ?_
  rintro e w8 ⟨A8, c8, rfl, -, -, q3, q4⟩
  have H := Lib.hid (H.out.on q4)
  have HY := Lib.hid (HY.out.on q4)
  have HQ := Lib.hid (own_reads q3)
  clear q3 q4
  go_wp2_with fail
  with_reducible refine (eq_yes Ay A8 11 cy 11 c8 yW ([77, 83, 1, 0, 0, 0, 0] ++ sumB (crcS [77, 83, 1, 0, 0, 0, 0])) _ HY.out HQ.out (by kernel_rfl)).mono ?_
  rintro e w9 ⟨rfl, rfl⟩
  clear HQ HY
  have k2 := H.out.blk.cell 2
  have k0 := H.out.its_.cell 0
  go_wp2_with fail
  have H := Lib.hid (H.out.al (.cells #[.slice (some ⟨w.heap.size, 0, none⟩) 2 2, .int .i64 0] 65))
  with_reducible refine (brefused_yes 172 0 0 (some ⟨w8.heap.size, 0, none⟩) 1 1 [(rowW, 0)] _ (items_one (Blk.new _ _ _) H.out.row (Nat.le_refl 2) (show 2 ≤ maxLen by decide)) (by decide) (baOk_of (by decide) (okB_it _ (by kernel_rfl))) (okB_it _ (by kernel_rfl)) H.out.tab (by decide) (by kernel_rfl)).mono ?_
  rintro e w10 ⟨rfl, hb⟩
  have H := Lib.hid (H.out.on hb)
  clear hb k2 k0
  have k2 := H.out.blk.cell 2
  have k0 := H.out.its_.cell 0
  go_wp2_with fail
  have H := Lib.hid (H.out.al (.cells #[.slice (some ⟨w.heap.size, 0, none⟩) 1 2, .int .i64 1] 65))
  with_reducible refine (brefused_yes 100 0 0 (some ⟨w10.heap.size, 0, none⟩) 1 1 [([(false, 1, ⟨#[]⟩)], 1)] _ (items_one (Blk.new _ _ _) (show Reads _ _ 3 _ 1 (cls [(false, 1, ⟨#[]⟩)]) from H.out.row.head (k := 1) (by decide)) (show 1 ≤ 2 by decide) (show 2 ≤ maxLen by decide)) (by decide) (baOk_of (by decide) (okB_it _ (by kernel_rfl))) (okB_it _ (by kernel_rfl)) H.out.tab (by decide) (by kernel_rfl)).mono ?_
  rintro e w11 ⟨rfl, hb⟩
  have H := Lib.hid (H.out.on hb)
  clear hb k2 k0
  go_wp2_with fail
  with_reducible refine (brefused_yes 2 0 (-1) none 0 0 [] _ ItemsAt.nil (by decide) (baOk_of (by decide) (by simp [ItOk])) (by simp [ItOk]) H.out.tab (by decide) (by kernel_rfl)).mono ?_
  rintro e w12 ⟨rfl, hb⟩
  have H := Lib.hid (H.out.on hb)
  clear hb
  go_wp2_with fail
  with_reducible refine (two_any _).mono ?_
  rintro e w13 ⟨rfl, hr, hb⟩
  have H := Lib.hid (H.out.on hb)
  have HR := Lib.hid hr
  clear hr hb
  go_wp2_with fail
  with_reducible refine (bdec_any (some ⟨w12.heap.size, 0, none⟩) 2 2 twoC Ax 20 cx xW _ HR.out (by decide) H.out.x H.out.cap.1 H.out.cap.2 H.out.tab).mono ?_
  rw [decW7]
  rintro e w14 ⟨hb, I, k, d, rfl, hio⟩
  have H := Lib.hid (H.out.on hb)
  have HI := Lib.hid hio.at_
  obtain rfl : 2 = k := hio.len
  clear hb hio HR
  simp only
  have H := Lib.hid (H.out.al (.cells #[.int .i64 3, .int .i64 300, .slice I 2 d] 25))
  have k0 := H.out.blk.cell 0
  have k1 := H.out.blk.cell 1
  have k2 := H.out.blk.cell 2
  go_wp2_with fail
  with_reducible refine (bsame_any 3 300 (some ⟨w.heap.size + 2, 0, none⟩) 2 2 itW 3 300 I 2 d itW _ H.out.items (HI.out.al _) (by decide)).mono ?_
  rw [sameBa_self]
  rintro e w15 ⟨rfl, hb⟩
  have H := Lib.hid (H.out.on hb)
  clear hb k0 k1 k2 HI
  go_wp2_with fail
  with_reducible refine (bfails_yes 3 3 rfl none 0 0 [] _ Reads.none_ (by decide) (by decide) H.out.tab decW1).mono ?_
  rintro e w16 ⟨rfl, hb⟩
  have H := Lib.hid (H.out.on hb)
  clear hb
  go_wp2_with fail
  have H := Lib.hid (H.out.al (.cells #[.int .u8 0, .int .u8 0, .int .u8 0, .int .u8 0] 5))
  with_reducible refine (bfails_yes 171 171 rfl (some ⟨w16.heap.size, 0, none⟩) 4 4 [0, 0, 0, 0] _ (by exact reads_lit _ _ _ _ _ _ rfl rfl rfl) (by decide) (by decide) H.out.tab decW2).mono ?_
  rintro e w17 ⟨rfl, hb⟩
  have H := Lib.hid (H.out.on hb)
  clear hb
  go_wp2_with fail
  have H := Lib.hid (H.out.al (.cells #[.int .u8 77, .int .u8 83, .int .u8 2] 5))
  with_reducible refine (summed_any (some ⟨w17.heap.size, 0, none⟩) 3 3 [77, 83, 2] _ (by exact reads_lit _ _ _ _ _ _ rfl rfl rfl) (by decide) H.out.tab.ctab).mono ?_
  rintro e w18 ⟨A8, c8, rfl, q1, q2, q3, q4⟩
  have H := Lib.hid (H.out.on q4)
  have HQ := Lib.hid (own_reads q3)
  clear q3 q4
  go_wp2_with fail
  with_reducible refine (bfails_yes 171 171 rfl A8 7 c8 _ _ HQ.out q1 q2 H.out.tab decW3).mono ?_
  rintro e w19 ⟨rfl, hb⟩
  have H := Lib.hid (H.out.on hb)
  clear hb q1 q2 HQ
  go_wp2_with fail
  have H := Lib.hid (H.out.al (.cells #[.int .u8 77, .int .u8 83, .int .u8 1] 5))
  with_reducible refine (summed_any (some ⟨w19.heap.size, 0, none⟩) 3 3 [77, 83, 1] _ (by exact reads_lit _ _ _ _ _ _ rfl rfl rfl) (by decide) H.out.tab.ctab).mono ?_
  rintro e w20 ⟨A8, c8, rfl, q1, q2, q3, q4⟩
  have H := Lib.hid (H.out.on q4)
  have HQ := Lib.hid (own_reads q3)
  clear q3 q4
  go_wp2_with fail
  with_reducible refine (bfails_yes 3 3 rfl A8 7 c8 _ _ HQ.out q1 q2 H.out.tab decW4).mono ?_
  rintro e w21 ⟨rfl, hb⟩
  have H := Lib.hid (H.out.on hb)
  clear hb q1 q2 HQ
  go_wp2_with fail
  with_reducible refine (copyBytes_any Ax 20 cx xW _ H.out.x (by decide)).mono ?_
  rintro e w22 ⟨A9, c9, rfl, q1, q2, q3, q4⟩
  obtain ⟨g, rfl, hg, hg2, hcell, hfz⟩ := own_at q3 (by decide)
  have c1 := hcell 19 (.int .u8 129) (by kernel_rfl)
  have f1 := hfz 19
  have o9 := own_set q3 19 (by decide) (.int .u8 193)
  have H9 := Lib.hid (own_reads (show World.ownsRow _ _ _ 1 _ 20 (u8s (xW.set 19 193)) from o9))
  have H := Lib.hid (H.out.on (q4.setCell (p := ⟨g, 19, none⟩) hg (.int .u8 193)))
  clear hg hg2 hcell hfz o9 q3 q4
  go_wp2_with fail
  clear c1 f1
  have hbx : bits BinOp.xor IntKind.u8 129 64 = 193 := by kernel_rfl
  rw [hbx]
  clear hbx
  generalize w22.setCell ⟨g, 19, none⟩ (.int .u8 193) = w23 at *
  with_reducible refine (bpeek_any Ax 20 cx xW _ H.out.x H.out.cap.1 H.out.cap.2 H.out.tab).mono ?_
  rw [pkW]
  rintro e w24 ⟨rfl, hb⟩
  have H := Lib.hid (H.out.on hb)
  have H9 := Lib.hid (H9.out.on hb)
  clear hb
  simp only
  go_wp2_with fail
  with_reducible refine (copyBytes_any (some ⟨hh, 0, none⟩) 16 16 hdW _ H.out.head (by decide)).mono ?_
  rintro e w25 ⟨A25, c25, rfl, p1, p2, p3, p4⟩
  have HP := Lib.hid p4
  have HO := Lib.hid p3
  have hsz := p4.size
  clear p1 p2 p3 p4
  have hs1 : 16 + 1 ≤ maxLen := by decide
  have hs2 : (16 + 1) * 1 ≤ 70368744177664 := by decide
  go_wp2_with (at_builtin
               refine wpList_append_any _ rfl (.tmp 142) (.tmp 143) 26 rfl w24.heap.size 5 i0 (.int .u8 0) 1 1 Tryz.underlying26 hi0 hz0 hz1 hz2 rfl (by decide) A25 16 c25 _ rfl (HO.out.alloc _) (some ⟨_, 0, none⟩) 1 1 (u8s [0]) rfl (by exact reads_lit _ _ _ _ _ _ rfl rfl rfl) (u8s_one _) hs1 hs2 (by simp; omega) ?_
               intro A8 c8 w8 r1 r2 r3 r4 r5
               rw [← u8s_append] at r1
               have R1 := Lib.hid (own_reads r1)
               have R2 := Lib.hid ((bal HP.out _).trans r2)
               clear r1 r2 r3 r4 r5)
  have H := Lib.hid (H.out.on R2.out)
  have H9 := Lib.hid (H9.out.on R2.out)
  clear R2 HP HO hsz hs1 hs2
  with_reducible refine (summed_any A8 17 c8 (hdW ++ [0]) _ R1.out (by decide) H.out.tab.ctab).mono ?_
  rintro e w26 ⟨A26, c26, rfl, p1, p2, p3, p4⟩
  have H := Lib.hid (H.out.on p4)
  have H9 := Lib.hid (H9.out.on p4)
  have HQ := Lib.hid (own_reads p3)
  clear p3 p4 R1
  go_wp2_with fail
  with_reducible refine (bfails_yes 30 30 rfl A26 21 c26 _ _ HQ.out p1 p2 H.out.tab decW5).mono ?_
  rintro e w27 ⟨rfl, hb⟩
  have H := Lib.hid (H.out.on hb)
  have H9 := Lib.hid (H9.out.on hb)
  clear hb p1 p2 HQ
  go_wp2_with fail
  with_reducible refine (bfails_yes 170 170 rfl (some ⟨g, 0, none⟩) 20 c9 _ _ H9.out q1 q2 H.out.tab decW6).mono ?_
  rintro e w28 ⟨rfl, hb⟩
  have H := Lib.hid (H.out.on hb)
  clear hb q1 q2 H9
  go_wp2
  go_ret
  exact ⟨rfl, H.out.below⟩
end Go.Proofs.YtdajddkbkbnoiaaGreatDoor
namespace Go.Proofs.YtdajddkbkbnoiaaGreatDoor
def waitsB (md : Region.Mode) (ops : Array Oper) (k i : Nat) : Bool := match ops[k]? with
  | some o => o.after.any fun e => Region.binds md e && e.on == i
  | none => false
theorem not_waits {md : Region.Mode} {ops : Array Oper} {listed : Array Bool} {j i : Nat} (hj : j ∈ Region.ready md ops listed) (hi : listed.getD i true = false) : waitsB md ops j i = false := by
  obtain ⟨-, o, ho, hall⟩ := mem_ready.1 hj
  unfold waitsB
  rw [ho]
  simp only
  rw [Bool.eq_false_iff]
  intro h
  obtain ⟨e, he, hb⟩ := Array.any_eq_true'.1 h
  simp only [Bool.and_eq_true, beq_iff_eq] at hb
  have h1 := hall e he hb.1
  rw [hb.2] at h1
  rcases Nat.lt_or_ge i listed.size with h' | h'
  · simp [h'] at hi h1
    rw [hi] at h1
    cases h1
  · simp [Array.getElem?_eq_none h'] at h1
section
variable {P : Program} {md : Region.Mode} {ops : Array Oper} {Q : Exit → Act → World → Prop} {S S2 : World → Prop}
def usedUp (md : Region.Mode) (ops : Array Oper) (T : List Nat) (listed : Array Bool) : Prop := ∀ i ∈ T, ∃ k, listed.getD k false = true ∧ waitsB md ops k i = true
def wpAnyM (P : Program) (md : Region.Mode) (ops : Array Oper) (Q : Exit → Act → World → Prop) (S : World → Prop) (T : List Nat) : Nat → Array Bool → Act → World → Prop
  | 0, listed, a, w => Region.ready md ops listed = [] ∧ Q .normal a w
  | fuel + 1, listed, a, w => (usedUp md ops T listed ∧ wpAny P md ops Q (fuel + 1) listed a w) ∨
    ((Region.ready md ops listed = [] → Q .normal a w) ∧ ∀ i ∈ Region.ready md ops listed, wpOp P ops Q i (fun a' w' => S w' ∧ wpAnyM P md ops Q S T fuel (listed.setIfInBounds i true) a' w') a w)
theorem wpAny_of_phase {T : List Nat} : ∀ (fuel : Nat) (listed : Array Bool) (a : Act) (w : World), wpAnyM P md ops Q S T fuel listed a w → wpAny P md ops Q fuel listed a w
  | 0, _, _, _, h => h
  | _ + 1, _, _, _, .inl h => h.2
  | fuel + 1, _, _, _, .inr h => ⟨h.1, fun i hi => wpOp_mono (fun a' w' h' => wpAny_of_phase fuel _ a' w' h'.2) (h.2 i hi)⟩
theorem wpAnyM_first {T : List Nat} {i : Nat} {oi : Oper} {v : Value} (hi : ops[i]? = some oi) (hT : i ∈ T) (hs : Region.noSelect ops = true) (hQ : ∀ c a w, Q (.panic c) (a.put oi.dst v) w → Q (.panic c) a w) :
    ∀ (fuel : Nat) (listed : Array Bool) (a : Act) (w : World),
      (∀ j oj, ops[j]? = some oj → j ≠ i → listed.getD j true = false → (∀ e ∈ oj.after, Region.binds md e = true → e.on ≠ i) → oi.apart ops oj = true) →
      (∀ k, listed.getD k false = true → waitsB md ops k i = false) → i ∈ Region.ready md ops listed → YieldsIf P ops S oi v a → S w →
      wpAnyM P md ops Q S T fuel (listed.setIfInBounds i true) (a.put oi.dst v) w → wpAnyM P md ops Q S T (fuel + 1) listed a w := by
  have hsel := Region.noSelect_spec hs
  intro fuel
  induction fuel with
  | zero =>
    intro listed a w _ _ hr hy hS H
    refine .inr ⟨fun h => absurd (h ▸ hr) (by simp), fun j hj => ?_⟩
    by_cases hji : j = i
    · subst hji
      exact hy.wpOp hi hS ⟨hS, H⟩
    · exact absurd (H.1 ▸ ready_mono hj hji) (by simp)
  | succ fuel ih =>
    intro listed a w hfree hno hr hy hS H
    have hun := (mem_ready.1 hr).1
    refine .inr ⟨fun h => absurd (h ▸ hr) (by simp), fun j hj => ?_⟩
    by_cases hji : j = i
    · subst hji
      exact hy.wpOp hi hS ⟨hS, H⟩
    · rcases H with ⟨H, -⟩ | H
      · exfalso
        obtain ⟨k, hk, hw⟩ := H i hT
        by_cases hki : i = k
        · subst hki
          rw [not_waits hr hun] at hw
          cases hw
        · rw [getD_set_ne false hki] at hk
          rw [hno k hk] at hw
          cases hw
      · have h1 := H.2 j (ready_mono hj hji)
        have hjw := not_waits hj hun
        obtain ⟨hjun, oj, hoj, -⟩ := mem_ready.1 hj
        have hnot : ∀ e ∈ oj.after, Region.binds md e = true → e.on ≠ i := fun e he hb heq => by
          unfold waitsB at hjw
          rw [hoj] at hjw
          have : (oj.after.any fun e => Region.binds md e && e.on == i) = true := Array.any_eq_true'.2 ⟨e, he, by simp [hb, heq]⟩
          simp only at hjw
          rw [this] at hjw
          cases hjw
        have h2 := wpOp_putIf hoj (hfree j oj hoj hji hjun hnot) (fun cs b => hsel i oi cs b hi) (fun cs b => hsel j oj cs b hoj) hQ hy h1
        refine wpOp_mono (fun a' w' h3 => ⟨h3.2.1, ih (listed.setIfInBounds j true) a' w' (fun k ok hk hki hku hkn => ?_) (fun k hk => ?_) (ready_mono hr (Ne.symm hji)) h3.1 h3.2.1 ?_⟩) h2
        · refine hfree k ok hk hki ?_ hkn
          by_cases hjk : j = k
          · subst hjk; exact hjun
          · rw [getD_set_ne true hjk] at hku; exact hku
        · by_cases hjk : j = k
          · subst hjk; exact hjw
          · rw [getD_set_ne false hjk] at hk; exact hno k hk
        · rw [Array.setIfInBounds_comm _ _ hji]
          exact h3.2.2
def wpPhase (P : Program) (ops : Array Oper) (Q : Exit → Act → World → Prop) (S : World → Prop) (X : Act → World → Prop) : List (Nat × Bool) → Act → World → Prop
  | [], a, w => X a w
  | (i, true) :: rest, a, w => ∃ o, ops[i]? = some o ∧ ∀ K : Act → World → Prop, (∀ a w, S w → wpPhase P ops Q S X rest a w → K a w) → if Region.wanted o (yielded ops a.tmps) then o.wp P a w K Q else K (a.put o.dst undef) w
  | (i, false) :: rest, a, w => ∃ o v, ops[i]? = some o ∧ YieldsIf P ops S o v a ∧ S w ∧ wpPhase P ops Q S X rest (a.put o.dst v) w
variable {X : Act → World → Prop}
theorem phase_pure {i : Nat} {o : Oper} {d : Tmp} {rest : List (Nat × Bool)} {a : Act} {w : World} {v : Value} (ho : ops[i]? = some o) (hd : o.dst = some d) (hw : Region.wanted o (yielded ops a.tmps) = true) (hS : S w)
    (hy : ∀ w, S w → (execOp a.eval o).run P w = .ok (.value v) w) (h : wpPhase P ops Q S X rest { tmps := a.tmps.setIfInBounds d v, defers := a.defers } w) : wpPhase P ops Q S X ((i, false) :: rest) a w :=
  ⟨o, v, ho, .inl ⟨hw, hy⟩, hS, by rw [hd]; exact h⟩
theorem phase_eff1 {i : Nat} {o : Oper} {rest : List (Nat × Bool)} {a : Act} {w : World} (ho : ops[i]? = some o) (hw : Region.wanted o (yielded ops a.tmps) = true)
    (h : ∀ K : Act → World → Prop, (∀ a w, S w → wpPhase P ops Q S X rest a w → K a w) → o.wp P a w K Q) : wpPhase P ops Q S X ((i, true) :: rest) a w :=
  ⟨o, ho, fun K hK => by rw [if_pos hw]; exact h K hK⟩
theorem phase_end {a : Act} {w : World} (h : X a w) : wpPhase P ops Q S X [] a w := h
def phaseB (md : Region.Mode) (ops : Array Oper) (T : List Nat) (l2 : List (Nat × Bool)) : List (Nat × Bool) → Array Bool → Bool
  | [], listed => (T.all fun i => (List.range ops.size).any fun k => listed.getD k false && waitsB md ops k i) && orderB md ops l2 listed
  | (i, true) :: rest, listed => Region.ready md ops listed == [i] && phaseB md ops T l2 rest (listed.setIfInBounds i true)
  | (i, false) :: rest, listed => T.contains i && Region.free md ops listed i && (Region.ready md ops listed).contains i && ((List.range ops.size).all fun k => !(listed.getD k false) || !(waitsB md ops k i)) && phaseB md ops T l2 rest (listed.setIfInBounds i true)
theorem waits_lt {k i : Nat} (h : waitsB md ops k i = true) : k < ops.size := by
  unfold waitsB at h
  split at h
  · rename_i o ho
    exact (Array.getElem?_eq_some_iff.1 ho).1
  · cases h
theorem wpAnyM_of_phase {T : List Nat} {l2 : List (Nat × Bool)} (hl2 : 0 < l2.length) (hs : Region.noSelect ops = true) (hQ : ∀ d v c a w, Q (.panic c) (Act.put a d v) w → Q (.panic c) a w) :
    ∀ (l : List (Nat × Bool)) (fuel : Nat) (listed : Array Bool) (a : Act) (w : World), l.length + l2.length ≤ fuel → phaseB md ops T l2 l listed = true → wpPhase P ops Q S (wpHeld P ops Q S2 l2) l a w → wpAnyM P md ops Q S T fuel listed a w := by
  intro l
  induction l with
  | nil =>
    intro fuel listed a w hf ho h
    obtain ⟨fuel, rfl⟩ : ∃ f, fuel = f + 1 := ⟨fuel - 1, by simp at hf; omega⟩
    simp only [phaseB, Bool.and_eq_true] at ho
    refine .inl ⟨fun i hi => ?_, wpAny_of_held _ _ _ _ (wpAnyH_of_held hs hQ l2 (fuel + 1) listed a w (by simp at hf; omega) ho.2 h)⟩
    have h1 := List.all_eq_true.1 ho.1 i hi
    obtain ⟨k, -, hk⟩ := List.any_eq_true.1 h1
    simp only [Bool.and_eq_true] at hk
    exact ⟨k, hk.1, hk.2⟩
  | cons x rest ih =>
    intro fuel listed a w hf ho h
    obtain ⟨i, b⟩ := x
    simp only [List.length_cons] at hf
    obtain ⟨fuel, rfl⟩ : ∃ f, fuel = f + 1 := ⟨fuel - 1, by omega⟩
    cases b with
    | true =>
      simp only [phaseB, Bool.and_eq_true, beq_iff_eq] at ho
      obtain ⟨o, hoi, hl⟩ := h
      refine .inr ⟨fun h0 => absurd (ho.1.symm.trans h0) (by simp), fun j hj => ?_⟩
      rw [ho.1] at hj
      obtain rfl : j = i := by simpa using hj
      unfold wpOp
      simp only [hoi]
      have := hl (fun a' w' => S w' ∧ wpAnyM P md ops Q S T fuel (listed.setIfInBounds j true) a' w') (fun a w hS h => ⟨hS, ih fuel _ a w (by omega) ho.2 h⟩)
      split at this
      · rename_i hw
        simp only [hw, if_true]
        exact .inl this
      · rename_i hw
        simp only [hw, if_false, Bool.false_eq_true]
        exact this
    | false =>
      simp only [phaseB, Bool.and_eq_true] at ho
      obtain ⟨⟨⟨⟨h1, h2⟩, h3⟩, h4⟩, h5⟩ := ho
      obtain ⟨o, v, hoi, hy, hS, hl⟩ := h
      refine wpAnyM_first hoi (by simpa using h1) hs (fun c a w => hQ _ _ c a w) fuel listed a w (Region.free_spec hoi h2) (fun k hk => ?_) (by simpa using h3) hy hS (ih fuel _ _ w (by omega) h5 hl)
      rcases hw : waitsB md ops k i with _ | _
      · rfl
      · have := List.all_eq_true.1 h4 k (List.mem_range.2 (waits_lt hw))
        rw [hk, hw] at this
        cases this
theorem wp_region_phase (S : World → Prop) (T : List Nat) (l : List (Nat × Bool)) (S2 : World → Prop) (l2 : List (Nat × Bool)) {id : Nat} {a : Act} {w : World} (hm : P.follows .mixedOrders = true) (hs : Region.noSelect ops = true)
    (ho : (Nat.blt 0 l2.length && l.length + l2.length == ops.size && phaseB .any ops T l2 l (Array.replicate ops.size false)) = true)
    (hQ : ∀ d v c a w, Q (.panic c) (Act.put a d v) w → Q (.panic c) a w)
    (h : wpPhase P ops Q S (wpHeld P ops Q S2 l2) l a w.drew) : (Code.region id ops true).wp P Q a w := by
  simp only [Bool.and_eq_true, beq_iff_eq] at ho
  exact wp_region_any hm (wpAny_of_phase _ _ _ _ (wpAnyM_of_phase (T := T) (by have := ho.1.1; simpa [Nat.blt_eq] using this) hs hQ l ops.size _ a _ (by omega) ho.2 h))
end
end Go.Proofs.YtdajddkbkbnoiaaGreatDoor
namespace Go.Proofs.YtdajddkbkbnoiaaGreatDoor
open Go.RowKit Go.Deep Go.ChangeShapes Go.WideShapes Go.Shelf Go.Lib
theorem struct_fields {H : Type} {enc : TypeId × Value → H} {P : Program} {w : World} {held : Bool} {sp : Nat → Bool} {base : Nat} {ts : TypeId} {fs : Array Field} {fuel : Nat} {cs : List Value} {x : DataW H × List MemPlace} (hs : P.underlying ts = some (.struct fs))
    (h : DataW.trod enc P w base sp held fuel ts cs = some x) : ∃ n, cs.length = P.cellsOf ts ∧ ∀ (i : Nat) (f : Field), fs[i]? = some f → ∃ y, DataW.trod enc P w base sp held n f.type ((cs.drop f.offset).take (P.cellsOf f.type)) = some y := by
  obtain ⟨xs, n, _, rfl, hcl, hxl, hf⟩ := DataW.trod_struct hs h
  refine ⟨n, hcl, fun i f hi => ?_⟩
  have g := hf i f hi
  have hlt : i < fs.size := (Array.getElem?_eq_some_iff.1 hi).1
  rw [List.getElem?_eq_getElem (by omega)] at g
  exact ⟨_, g⟩
theorem cell_of {H : Type} {enc : TypeId × Value → H} {w : World} {held : Bool} {n : Nat} {cs : List Value} {y : DataW H × List MemPlace} (hy : DataW.trod enc Tryz.prog w 0 (fun _ => true) held n 60 cs = some y) :
    ∃ c : Cl, cs = [.bool c.1, .int .i64 c.2.1, .string c.2.2] ∧ -9223372036854775808 ≤ c.2.1 ∧ c.2.1 ≤ 9223372036854775807 ∧ c.2.2.size ≤ maxLen := by
  obtain ⟨m, hl, hc⟩ := struct_cells Tryz.underlying60 (by kernel_rfl) (by kernel_rfl) hy
  match cs, hl with
  | [v0, v1, v2], _ =>
    obtain ⟨y0, g0⟩ := hc 0 _ _ rfl rfl
    obtain ⟨y1, g1⟩ := hc 1 _ _ rfl rfl
    obtain ⟨y2, g2⟩ := hc 2 _ _ rfl rfl
    obtain ⟨u, e0, -⟩ := DataW.trod_bool Tryz.underlying4 g0
    obtain ⟨k, e1, _, b1⟩ := DataW.trod_int Tryz.underlying2 g1
    obtain ⟨s, e2, _, b2⟩ := DataW.trod_string Tryz.underlying9 g2
    cases e0
    cases e1
    cases e2
    exact ⟨(u, k, s), rfl, (bounds_i64 b1).1, (bounds_i64 b1).2, b2⟩
theorem ktype_of {H : Type} {enc : TypeId × Value → H} {w : World} {held : Bool} {n : Nat} {cs : List Value} {y : DataW H × List MemPlace} (hy : DataW.trod enc Tryz.prog w 0 (fun _ => true) held n 58 cs = some y) :
    ∃ (k : Int) (nl : Bool), cs = [.int .i64 k, .bool nl] ∧ -9223372036854775808 ≤ k ∧ k ≤ 9223372036854775807 := by
  obtain ⟨m, hl, hc⟩ := struct_cells Tryz.underlying58 (by kernel_rfl) (by kernel_rfl) hy
  match cs, hl with
  | [v0, v1], _ =>
    obtain ⟨y0, g0⟩ := hc 0 _ _ rfl rfl
    obtain ⟨y1, g1⟩ := hc 1 _ _ rfl rfl
    obtain ⟨k, e0, _, b0⟩ := DataW.trod_int Tryz.underlying3 g0
    obtain ⟨u, e1, -⟩ := DataW.trod_bool Tryz.underlying4 g1
    cases e0
    cases e1
    exact ⟨k, u, rfl, (bounds_i64 b0).1, (bounds_i64 b0).2⟩
def CoOk (l : List Co) : Prop := ∀ c ∈ l, -9223372036854775808 ≤ c.2.2.1 ∧ c.2.2.1 ≤ 9223372036854775807
set_option maxRecDepth 100000 in
theorem cols_of {H : Type} {enc : TypeId × Value → H} {w : World} {held : Bool} {a : Option Addr} {len cap : Nat} {d : DataW H} {p : List MemPlace} (h : DataW.Trod enc Tryz.prog w 0 (fun _ => true) held 22 (.slice a len cap) d p) :
    ∃ xs : List Co, Reads w w.heap.size 7 a len (cos xs) ∧ len ≤ cap ∧ cap ≤ maxLen ∧ CoOk xs := by
  haveI : Inhabited Co := ⟨(0, ⟨#[]⟩, 0, false, false, 0, ⟨#[]⟩)⟩
  refine structs_of 7 coV (fun c => -9223372036854775808 ≤ c.2.2.1 ∧ c.2.2.1 ≤ 9223372036854775807) (by decide) (fun _ => rfl) Tryz.underlying22 (by kernel_rfl) (fun n cs y hy => ?_) h
  obtain ⟨m, hl, hc⟩ := struct_fields Tryz.underlying62 hy
  rw [show Tryz.prog.cellsOf 62 = 7 by kernel_rfl] at hl
  match cs, hl with
  | [v0, v1, v2, v3, v4, v5, v6], _ =>
    obtain ⟨y0, g0⟩ : ∃ y, DataW.trod enc Tryz.prog w 0 (fun _ => true) held m 3 (([v0, v1, v2, v3, v4, v5, v6].drop 0).take (Tryz.prog.cellsOf 3)) = some y := hc 0 _ rfl
    obtain ⟨y1, g1⟩ : ∃ y, DataW.trod enc Tryz.prog w 0 (fun _ => true) held m 9 (([v0, v1, v2, v3, v4, v5, v6].drop 1).take (Tryz.prog.cellsOf 9)) = some y := hc 1 _ rfl
    obtain ⟨y2, g2⟩ : ∃ y, DataW.trod enc Tryz.prog w 0 (fun _ => true) held m 58 (([v0, v1, v2, v3, v4, v5, v6].drop 2).take (Tryz.prog.cellsOf 58)) = some y := hc 2 _ rfl
    obtain ⟨y3, g3⟩ : ∃ y, DataW.trod enc Tryz.prog w 0 (fun _ => true) held m 60 (([v0, v1, v2, v3, v4, v5, v6].drop 4).take (Tryz.prog.cellsOf 60)) = some y := hc 3 _ rfl
    rw [show Tryz.prog.cellsOf 3 = 1 by kernel_rfl] at g0
    rw [show Tryz.prog.cellsOf 9 = 1 by kernel_rfl] at g1
    rw [show Tryz.prog.cellsOf 58 = 2 by kernel_rfl] at g2
    rw [show Tryz.prog.cellsOf 60 = 3 by kernel_rfl] at g3
    simp only [List.drop_zero, List.drop_succ_cons, List.take_succ_cons, List.take_zero] at g0 g1 g2 g3
    obtain ⟨i, e0, -, -⟩ := DataW.trod_int Tryz.underlying3 g0
    obtain ⟨s, e1, -, -⟩ := DataW.trod_string Tryz.underlying9 g1
    obtain ⟨k, nl, e2, b2⟩ := ktype_of g2
    obtain ⟨c, e3, -⟩ := cell_of g3
    cases e0
    cases e1
    cases e2
    cases e3
    exact ⟨(i, s, k, nl, c), rfl, b2⟩
theorem items_of {H : Type} {enc : TypeId × Value → H} {w : World} {held : Bool} {a : Option Addr} {len cap : Nat} {d : DataW H} {p : List MemPlace} (h : DataW.Trod enc Tryz.prog w 0 (fun _ => true) held 23 (.slice a len cap) d p) :
    ∃ l : List It, ItemsAt w w.heap.size a len l ∧ len ≤ cap ∧ cap ≤ maxLen ∧ ItOk l := by
  haveI : Inhabited (Hd × It) := ⟨(none, 0, 0), [], 0⟩
  obtain ⟨xs, h1, h2, h3, h4⟩ := structs_of 2 (fun q : Hd × It => itV q.1 q.2) (fun q => (Reads w w.heap.size 3 q.1.1 q.1.2.1 (cls q.2.1) ∧ q.1.2.1 ≤ q.1.2.2 ∧ q.1.2.2 ≤ maxLen) ∧ ClOk q.2.1 ∧ -9223372036854775808 ≤ q.2.2 ∧ q.2.2 ≤ 9223372036854775807) (by decide) (fun _ => rfl)
    Tryz.underlying23 (by kernel_rfl) (fun n cs y hy => by
      obtain ⟨m, hl, hc⟩ := struct_cells Tryz.underlying65 (by kernel_rfl) (by kernel_rfl) hy
      match cs, hl with
      | [v0, v1], _ =>
        obtain ⟨y0, g0⟩ := hc 0 _ _ rfl rfl
        obtain ⟨y1, g1⟩ := hc 1 _ _ rfl rfl
        obtain ⟨k, e1, _, b1⟩ := DataW.trod_int Tryz.underlying2 g1
        rcases open_slice Tryz.underlying63 g0 with ⟨e0, -⟩ | ⟨ad, l, c, -, -, -, -, e0, -⟩
        · cases e0
          cases e1
          obtain ⟨r, r1, r2, r3, r4⟩ := cells_of (a := none) (len := 0) (cap := 0) ⟨m, g0⟩
          exact ⟨((none, 0, 0), r, k), rfl, ⟨r1, r2, r3⟩, r4, (bounds_i64 b1).1, (bounds_i64 b1).2⟩
        · cases e0
          cases e1
          obtain ⟨r, r1, r2, r3, r4⟩ := cells_of (a := some ad) (len := l) (cap := c) ⟨m, g0⟩
          exact ⟨((some ad, l, c), r, k), rfl, ⟨r1, r2, r3⟩, r4, (bounds_i64 b1).1, (bounds_i64 b1).2⟩) h
  have hz : (xs.map (·.1)).zip (xs.map (·.2)) = xs := by
    rw [List.zip_map']
    simp
  refine ⟨xs.map (·.2), ⟨xs.map (·.1), ?_, by simp, fun j g it hg hi => ?_⟩, h2, h3, fun it hit => ?_⟩
  · unfold its
    rw [hz]
    exact h1
  · rw [List.getElem?_map] at hg hi
    cases hx : xs[j]? with
    | none => rw [hx] at hg; cases hg
    | some q =>
      rw [hx] at hg hi
      cases hg
      cases hi
      exact (h4 q (List.mem_of_getElem? hx)).1
  · obtain ⟨q, hq, rfl⟩ := List.mem_map.1 hit
    exact (h4 q hq).2
theorem batch_of {H : Type} {enc : TypeId × Value → H} {w : World} {held : Bool} {cs : Array Value} {d : DataW H} {p : List MemPlace} (h : DataW.Trod enc Tryz.prog w 0 (fun _ => true) held 25 (.agg cs) d p) :
    ∃ (v s : Int) (a : Option Addr) (len cap : Nat) (l : List It), cs = #[.int .i64 v, .int .i64 s, .slice a len cap] ∧ (-9223372036854775808 ≤ v ∧ v ≤ 9223372036854775807) ∧ (-9223372036854775808 ≤ s ∧ s ≤ 9223372036854775807) ∧ ItemsAt w w.heap.size a len l ∧ len ≤ cap ∧ cap ≤ maxLen ∧ ItOk l := by
  obtain ⟨fuel, hf⟩ := h
  obtain ⟨m, hl, hc⟩ := struct_cells Tryz.underlying25 (by kernel_rfl) (by kernel_rfl) hf
  obtain ⟨cl, hcl⟩ : ∃ cl, cl = cs.toList := ⟨_, rfl⟩
  have hcs : cs = cl.toArray := by rw [hcl]
  have hcells : (Value.agg cs).cells = cs := rfl
  rw [hcells, ← hcl] at hl hc
  match cl, hl with
  | [v0, v1, v2], _ =>
    obtain ⟨y0, g0⟩ := hc 0 _ _ rfl rfl
    obtain ⟨y1, g1⟩ := hc 1 _ _ rfl rfl
    obtain ⟨y2, g2⟩ := hc 2 _ _ rfl rfl
    obtain ⟨v, e0, _, b0⟩ := DataW.trod_int Tryz.underlying3 g0
    obtain ⟨s, e1, _, b1⟩ := DataW.trod_int Tryz.underlying2 g1
    rcases open_slice Tryz.underlying23 g2 with ⟨e2, -⟩ | ⟨ad, l, c, -, -, -, -, e2, -⟩
    · cases e0
      cases e1
      cases e2
      obtain ⟨r, r1, r2, r3, r4⟩ := items_of (a := none) (len := 0) (cap := 0) ⟨m, g2⟩
      exact ⟨v, s, none, 0, 0, r, hcs, bounds_i64 b0, bounds_i64 b1, r1, r2, r3, r4⟩
    · cases e0
      cases e1
      cases e2
      obtain ⟨r, r1, r2, r3, r4⟩ := items_of (a := some ad) (len := l) (cap := c) ⟨m, g2⟩
      exact ⟨v, s, some ad, l, c, r, hcs, bounds_i64 b0, bounds_i64 b1, r1, r2, r3, r4⟩
end Go.Proofs.YtdajddkbkbnoiaaGreatDoor
namespace Go.Proofs.YtdajddkbkbnoiaaGreatDoor
open Go.RowKit Go.Deep Go.ChangeShapes Go.WideShapes Go.Shelf Go.Lib
def crcData : DataW Unit := tabData .u32 (crcTab.map Int.ofNat)
theorem ctab_of {w : World} (h : VarReads Tryz.prog w "millstream/crc.table" crcData) : CTab w := by
  intro i hi
  obtain ⟨g, t, cs, fuel, p, hg, hty, hvar, hd⟩ := h
  obtain rfl : g = 0 := Option.some.inj (hg.symm.trans (by kernel_rfl))
  obtain rfl : t = 159 := Option.some.inj (hty.symm.trans (by kernel_rfl))
  have hcs := cells_of_tab Tryz.underlying159 Tryz.underlying55 (by kernel_rfl) (by kernel_rfl) hd
  rw [World.var?_cell hg hvar i, ← Array.getElem?_toList, hcs]
  have := step4_tab i hi
  simp [this]
end Go.Proofs.YtdajddkbkbnoiaaGreatDoor
namespace Go.Proofs.YtdajddkbkbnoiaaGreatDoor
open Go.RowKit
theorem cellE_ok {k : Int} {nl : Bool} {c : Cl} (hk : mayK k = true) (h : checkE k nl c = 0) : -9223372036854775808 ≤ c.2.1 ∧ c.2.1 ≤ 9223372036854775807 ∧ c.2.2.size ≤ maxLen := by
  obtain ⟨h1, h5⟩ : 1 ≤ k ∧ k ≤ 5 := by simpa [mayK] using hk
  have ha : allC k nl [c] = true := by simp [allC, h]
  obtain ⟨ho, hn⟩ := (allC_iff k nl [c] hk).1 ha
  cases hu : c.1 with
  | true =>
    obtain ⟨-, rfl⟩ := hn c (by simp) hu
    exact ⟨by decide, by decide, by decide⟩
  | false =>
    have hi := (ho c (List.mem_filter.2 ⟨by simp, by simp [hu]⟩)).2
    have hs := size_of_ok h1 h5 hi
    refine ⟨?_, ?_, Nat.le_trans hs (by decide)⟩
    all_goals
      rcases (show k = 1 ∨ k = 2 ∨ k = 3 ∨ k = 4 ∨ k = 5 by omega) with rfl | rfl | rfl | rfl | rfl
      all_goals simp [isC, sizeC] at hi; omega
theorem Fits.itOk {cs : List Co} {b : Ba} (h : Fits cs b) (hb : BaOk b) : ItOk b.2.2 := by
  intro it hit
  obtain ⟨hl, hc⟩ := rowE_zero (h.items it hit).1
  refine ⟨fun c hm => ?_, hb.2 it hit⟩
  obtain ⟨j, hj⟩ := List.getElem?_of_mem hm
  have hlt := (List.getElem?_eq_some_iff.1 hj).1
  have hco := List.getElem?_eq_getElem (l := cs) (i := j) (by omega)
  exact cellE_ok (mayCs_at h.may hco) (hc j _ _ hco hj)
theorem Fits.peek {cs : List Co} {b : Ba} (h : Fits cs b) (hb : BaOk b) : pkV (batD (encA cs b)) = (0, b.1, b.2.1, (b.2.2.length : Int)) := by
  have hl : (encA cs b).length - 4 = (bodyB cs b).length := by rw [encA_len]; omega
  have ht : (encA cs b).take ((encA cs b).length - 4) = bodyB cs b := by rw [hl]; unfold encA; exact List.take_left
  have hd : (encA cs b).drop ((encA cs b).length - 4) = sumB (crcS (bodyB cs b)) := by rw [hl]; unfold encA; exact List.drop_left
  have h3 := body_take3 cs b []
  rw [List.append_nil] at h3
  have e : (bodyB cs b).drop 3 = leb b.1.toNat ++ (leb b.2.1.toNat ++ (leb b.2.2.length ++ (colsB cs b.2.2 cs.length ++ wsB b.2.2))) := by simp [bodyB, headB]
  have h4 := h.v0
  have h5 := h.v1
  have h6 := h.s0
  have h7 := hb.1
  unfold batD
  rw [if_neg (by rw [encA_len]; omega), ht, hd, if_pos rfl, if_pos h3, e, batR_put _ _ _ (by omega) (by omega) h.rows]
  simp only [pkV, Prod.mk.injEq, true_and, and_true]
  omega
theorem cutl_ok {l : List It} (h : ItOk l) : ItOk (cutl l) := by
  intro it hit
  obtain ⟨x, hx, rfl⟩ := List.mem_map.1 hit
  obtain ⟨h1, h2⟩ := h x (List.mem_of_mem_take hx)
  exact ⟨cutr_ok h1, h2⟩
structure LawB (w : World) (A1 : Option Addr) (k1 : Nat) (lc : List Co) (v s : Int) (A : Option Addr) (k c : Nat) (l : List It) (wc : World) : Prop where
  below : Below w.heap.size w wc
  box : Blk wc w.heap.size 25 #[.int .i64 v, .int .i64 s, .slice A k c]
  cols : Reads wc wc.heap.size 7 A1 k1 (cos lc)
  items : ItemsAt wc wc.heap.size A k l
  tab : Tab2 wc.heap.size wc
  le1 : k1 ≤ 40
  le2 : k ≤ 30
  ok : ItOk l
  sok : s ≤ 9223372036854775807
section
variable {w wc w' : World} {A1 A : Option Addr} {k1 k c : Nat} {lc : List Co} {v s : Int} {l : List It}
theorem LawB.on (h : LawB w A1 k1 lc v s A k c l wc) (hb : Below wc.heap.size wc w') : LawB w A1 k1 lc v s A k c l w' :=
  ⟨bon h.below hb, h.box.on hb, h.cols.on hb, h.items.on hb, h.tab.on hb, h.le1, h.le2, h.ok, h.sok⟩
theorem LawB.al (h : LawB w A1 k1 lc v s A k c l wc) (o : Obj) : LawB w A1 k1 lc v s A k c l (wc.alloc o) := h.on (bal (Below.refl _ _) o)
theorem LawB.max1 (h : LawB w A1 k1 lc v s A k c l wc) : k1 ≤ maxLen := Nat.le_trans h.le1 (by decide)
theorem LawB.max2 (h : LawB w A1 k1 lc v s A k c l wc) : k ≤ maxLen := Nat.le_trans h.le2 (by decide)
theorem LawB.baok (h : LawB w A1 k1 lc v s A k c l wc) : BaOk (v, s, l) := baOk_of h.sok h.ok
end
theorem box_put {w3 w4 : World} {b base : Nat} {x y z v s : Value} {A : Option Addr} {k c : Nat} {l : List It} (hB : Blk w3 b 25 #[x, y, z]) (hi : ItemsOwn w3 base A k c l)
    (h4 : w4 = ((w3.setCell ⟨b, 0, none⟩ v).setCell ⟨b, 1, none⟩ s).setCell ⟨b, 2, none⟩ (.slice A k c)) :
    Blk w4 b 25 #[v, s, .slice A k c] ∧ ItemsOwn w4 base A k c l ∧ (∀ B, B ≤ b → Below B w3 w4) ∧
    (∀ {base2 size n : Nat} {t : TypeId} {u : Value} {xs : List Value}, w3.ownsRow base2 t size u n xs → t ≠ 25 → w4.ownsRow base2 t size u n xs) ∧
    (∀ {base2 n2 c2 : Nat} {A2 : Option Addr} {l2 : List It}, ItemsOwn w3 base2 A2 n2 c2 l2 → ItemsOwn w4 base2 A2 n2 c2 l2) ∧
    (∀ {b2 : Nat} {t : TypeId} {cs : Array Value}, Blk w3 b2 t cs → b2 ≠ b → Blk w4 b2 t cs) := by
  subst h4
  have g0 := hB.set_ 0 v
  have g1 := g0.set_ 1 s
  have g2 := g1.set_ 2 (.slice A k c)
  simp only [List.setIfInBounds_toArray, List.set_cons_zero, List.set_cons_succ] at g0 g1 g2
  refine ⟨g2, ((hi.far hB (by decide) (by decide) 0 _).far g0 (by decide) (by decide) 1 _).far g1 (by decide) (by decide) 2 _, fun B hb => (((Below.refl B w3).setCell (p := ⟨b, 0, none⟩) hb _).setCell (p := ⟨b, 1, none⟩) hb _).setCell (p := ⟨b, 2, none⟩) hb _, fun h ht => own_far (own_far (own_far h hB ht 0 _) g0 ht 1 _) g1 ht 2 _,
    fun h => ((h.far hB (by decide) (by decide) 0 _).far g0 (by decide) (by decide) 1 _).far g1 (by decide) (by decide) 2 _, fun h hne => ?_⟩
  exact ((h.far (p := ⟨b, 0, none⟩) hne _).far (p := ⟨b, 1, none⟩) hne _).far (p := ⟨b, 2, none⟩) hne _
end Go.Proofs.YtdajddkbkbnoiaaGreatDoor
