/- Part 20 of the walks, merged: each text under its own heading. Conditions: none of its own; each lemma states what it asks. -/
import Derived.Test.YtjpjalmilfgckaaGreatDoorBk7
import Derived.Test.YtjpjalmilfgckaaGreatDoorBk8
import Derived.Test.YtjpjalmilfgckaaGreatDoorBk9
import Derived.Test.YtjpjalmilfgckaaGreatDoorBk10
import Derived.Test.YtjpjalmilfgckaaGreatDoorBk12
import Derived.Test.YtjpjalmilfgckaaGreatDoorBk15
import Derived.Test.YtjpjalmilfgckaaGreatDoorBk19
import Derived.Deep.Fields
import Derived.Lib.LaidIn
import Derived.Lib.LaidU8T
import GoSem.PinnedTables
set_option linter.unusedVariables false
set_option linter.unusedSimpArgs false
namespace Go.Proofs.YtjpjalmilfgckaaGreatDoor
open Go.RowKit
theorem intsB_le (l : List Cl) : (intsB l).length ≤ 10 * l.length := by
 induction l with
 | nil => simp [intsB]
 | cons c l ih =>
  have := leb_le (zig c.2.1)
  simp only [intsB, List.flatMap_cons, List.length_append, List.length_cons] at *
  omega
theorem rawsB_le (l : List Cl) (h : ∀ c ∈ l, c.2.2.size ≤ 1024) : (rawsB l).length ≤ 1034 * l.length := by
 induction l with
 | nil => simp [rawsB]
 | cons c l ih =>
  have h1 := leb_le c.2.2.size
  have h2 := h c (by simp)
  have h3 := ih (fun x hx => h x (by simp [hx]))
  have h4 : c.2.2.data.toList.length = c.2.2.size := by rw [Array.length_toList]; rfl
  simp only [rawsB, List.flatMap_cons, List.length_append, List.length_cons] at *
  omega
theorem putB_leB (k : Int) (nl : Bool) (l : List Cl) (hk : mayK k = true) (ha : allC k nl l = true) : (putB k nl l []).length ≤ 10 + 1046 * l.length := by
 have hs := some_sizes hk ha
 have hl : (someC l).length ≤ l.length := List.length_filter_le _ _
 have h1 : ((if nl then packL (l.map fun c => !c.1) else [] : List UInt8)).length ≤ l.length := by
  split
  ·have := packL_le (l.map fun c => !c.1)
   simpa using this
  ·simp
 have h2 : (bareB k (someC l)).length ≤ 10 + 1044 * l.length := by
  unfold bareB
  split
  ·have := packL_le ((someC l).map fun c => c.2.1 == 1)
   simp only [List.length_map] at this
   omega
  ·split
   ·have := putD_le ((someC l).map fun c => c.2.2) (fun s hs2 => by
     obtain ⟨c, hc, rfl⟩ := List.mem_map.1 hs2
     exact hs c hc)
    simp only [List.length_map] at this
    omega
   ·split
    ·have := rawsB_le (someC l) hs
     omega
    ·have := intsB_le (someC l)
     omega
 unfold putB
 simp only [List.nil_append, List.length_append]
 omega
theorem Fits.colB_le {cs : List Co} {b : Ba} (h : Fits cs b) (k : Nat) : (colB cs b.2.2 k).length ≤ 10 + 1046 * b.2.2.length := by
 unfold colB
 split
 ·rename_i c hc
  have := putB_leB c.2.2.1 c.2.2.2.1 (colC b.2.2 k) (mayCs_at h.may hc) (h.col hc)
  simpa [colC] using this
 ·simp
theorem Fits.colsB_le {cs : List Co} {b : Ba} (h : Fits cs b) (j : Nat) : (colsB cs b.2.2 j).length ≤ j * (10 + 1046 * b.2.2.length) := by
 induction j with
 | zero => simp [colsB]
 | succ j ih =>
  have := h.colB_le j
  rw [colsB_succ, List.length_append, Nat.succ_mul]
  omega
theorem headB_le (v s : Int) (n : Nat) : (headB v s n).length ≤ 33 := by
 have h1 := leb_le v.toNat
 have h2 := leb_le s.toNat
 have h3 := leb_le n
 simp only [headB, List.length_append, List.length_cons, List.length_nil]
 omega
theorem wsB_le (l : List It) : (wsB l).length ≤ 10 * l.length := by
 induction l with
 | nil => simp [wsB]
 | cons c l ih =>
  have := leb_le (zig c.2)
  simp only [wsB, List.flatMap_cons, List.length_append, List.length_cons] at *
  omega
theorem mayCs_len {cs : List Co} (h : mayCs cs = true) : 1 ≤ cs.length ∧ cs.length ≤ 32 := by
 unfold mayCs at h
 simp only [Bool.and_eq_true, decide_eq_true_eq] at h
 exact h.1
def preB (cs : List Co) (b : Ba) (j : Nat) : List UInt8 := headB b.1 b.2.1 b.2.2.length ++ colsB cs b.2.2 j
theorem preB_zero (cs : List Co) (b : Ba) : preB cs b 0 = headB b.1 b.2.1 b.2.2.length := by simp [preB, colsB]
theorem preB_succ (cs : List Co) (b : Ba) (j : Nat) (c : Co) (h : cs[j]? = some c) : preB cs b (j + 1) = putB c.2.2.1 c.2.2.2.1 (colC b.2.2 j) (preB cs b j) := by
 unfold preB
 rw [colsB_succ, ← List.append_assoc]
 unfold colB
 rw [h]
 unfold putB
 simp
theorem Fits.preB_le {cs : List Co} {b : Ba} (h : Fits cs b) (j : Nat) (hj : j ≤ cs.length) : (preB cs b j).length ≤ 40000000000 := by
 have h1 := h.colsB_le j
 have h2 := headB_le b.1 b.2.1 b.2.2.length
 have h3 := (mayCs_len h.may).2
 have h4 := h.rows
 have h5 : j * (10 + 1046 * b.2.2.length) ≤ 32 * (10 + 1046 * 1048576) := Nat.mul_le_mul (by omega) (by omega)
 unfold preB
 rw [List.length_append]
 omega
def preW (cs : List Co) (b : Ba) (i : Nat) : List UInt8 := preB cs b cs.length ++ wsB (b.2.2.take i)
theorem preW_zero (cs : List Co) (b : Ba) : preW cs b 0 = preB cs b cs.length := by simp [preW, wsB]
theorem preW_succ (cs : List Co) (b : Ba) (i : Nat) (it : It) (h : b.2.2[i]? = some it) : preW cs b (i + 1) = preW cs b i ++ leb (zig it.2) := by
 unfold preW wsB
 rw [List.take_add_one, h]
 simp
theorem preW_end (cs : List Co) (b : Ba) : preW cs b b.2.2.length = bodyB cs b := by
 unfold preW preB bodyB
 rw [List.take_length, List.append_assoc]
theorem Fits.preW_le {cs : List Co} {b : Ba} (h : Fits cs b) (i : Nat) : (preW cs b i).length ≤ 50000000000 := by
 have h1 := h.preB_le cs.length (Nat.le_refl _)
 have h2 := wsB_le (b.2.2.take i)
 have h3 := h.rows
 have h4 : (b.2.2.take i).length ≤ b.2.2.length := List.length_take_le' _ _
 unfold preW
 rw [List.length_append]
 omega
theorem Fits.body_le {cs : List Co} {b : Ba} (h : Fits cs b) : (bodyB cs b).length ≤ 50000000000 := by
 rw [← preW_end]
 exact h.preW_le _
theorem Fits.enc_le {cs : List Co} {b : Ba} (h : Fits cs b) : (encA cs b).length ≤ 60000000000 := by
 have := h.body_le
 rw [encA_len]
 omega
def cutc (c : Cl) : Cl := (c.1, c.2.1, c.2.2.extract 0 (min c.2.2.size 300))
def cutr (r : List Cl) : List Cl := (r.take 40).map cutc
def cuti (it : It) : It := (cutr it.1, it.2)
def cutl (l : List It) : List It := (l.take 30).map cuti
theorem cutl_len (l : List It) : (cutl l).length = min 30 l.length := by simp [cutl]
theorem cutc_idem (c : Cl) : cutc (cutc c) = cutc c := by
 obtain ⟨u, x, s⟩ := c
 simp only [cutc, Prod.mk.injEq, true_and]
 have h : (s.extract 0 (min s.size 300)).size ≤ 300 := by simp only [ByteArray.size_extract]; omega
 generalize s.extract 0 (min s.size 300) = t at h
 rw [Nat.min_eq_left h]
 apply ByteArray.ext
 simp [ByteArray.data_extract, ← ByteArray.size_data]
theorem cutr_idem (r : List Cl) : cutr (cutr r) = cutr r := by
 unfold cutr
 rw [← List.map_take, List.take_take, Nat.min_self, List.map_map]
 exact List.map_congr_left fun c _ => cutc_idem c
theorem cutl_idem (l : List It) : cutl (cutl l) = cutl l := by
 unfold cutl
 rw [← List.map_take, List.take_take, Nat.min_self, List.map_map]
 exact List.map_congr_left fun it _ => by simp [cuti, cutr_idem]
theorem cutr_ok {r : List Cl} (h : ClOk r) : ClOk (cutr r) := by
 intro c hc
 obtain ⟨d, hd, rfl⟩ := List.mem_map.1 hc
 obtain ⟨h1, h2, h3⟩ := h d (List.mem_of_mem_take hd)
 refine ⟨h1, h2, ?_⟩
 simp only [cutc, ByteArray.size_extract]
 omega
end Go.Proofs.YtjpjalmilfgckaaGreatDoor
namespace Go.Proofs.YtjpjalmilfgckaaGreatDoor
open Go.RowKit
set_option maxRecDepth 100000 in
set_option maxHeartbeats 2000000 in
theorem rsome1_any (B : Option Addr) (m cb : Nat) (xs : List UInt8) (n : Int) (w : World) (hr : Reads w w.heap.size 1 B m (u8s xs)) (hm : m ≤ cb) (hc : cb ≤ maxLen) (hn1 : -9223372036854775808 ≤ n) (hn2 : n ≤ 9223372036854775807) :
  Calls Tryz.prog 168 #[.slice B m cb, .int .i64 1, .int .i64 n] w (GotC3 (getB 1 xs n) w) := by
 obtain ⟨j0, hj0, hk0, hj1, hk2⟩ := info_parts cell_info
 have hgb : getB 1 xs n = (if (unpackL xs n).2.2 = 0 then .ok ((unpackL xs n).1.map boolC, (unpackL xs n).2.1) else .error (unpackL xs n).2.2) := by simp only [getB, if_true]
 have hus := (unpackL_size xs n).2.1
 have hemp : (unpackL xs n).2.2 ≠ 0 → (unpackL xs n).1 = [] ∧ (unpackL xs n).2.1 = 0 := by
  rcases unpackL_only xs n with ⟨l, t, e, -⟩ | ⟨e, h, -⟩
  ·rw [e]; intro h; exact absurd rfl h
  ·rw [h]; intro _; exact ⟨rfl, rfl⟩
 have Hgb := Lib.hid hgb
 have Hus := Lib.hid hus
 have Hemp := Lib.hid hemp
 clear hgb hus hemp
 go_enter Tryz.func168, Tryz.ntmps168
 go_wp2_with fail
 with_reducible refine (refmunpack_any B m cb xs n _ hr hm hc hn1 hn2).mono ?_
 rintro e w1 ⟨AL, cL, rfl, q1, q2, q3, q4⟩
 generalize unpackL xs n = r at *
 obtain ⟨bl, sz, er⟩ := r
 simp only at q1 q2 q3 q4 Hus Hemp Hgb
 have hus := Hus.out
 have HL := Lib.hid q3
 have HB := Lib.hid q4
 have HB1w := Lib.hid q4.size
 clear q1 q2 q3 q4
 go_wp2
 go_loopw [9, 13] (fun v i wr => ∃ (j : Nat) (A9 : Option Addr) (c9 : Nat), j ≤ bl.length ∧ v = .slice A9 j c9 ∧ i = .int .i64 (j : Int) ∧ (j = 0 → A9 = none ∧ c9 = 0) ∧ Hid (wr.ownsRow w1.heap.size 23 3 (.slice A9 j c9) j (cls ((bl.take j).map boolC))) ∧ Hid (Reads wr w1.heap.size 1 AL bl.length (bls bl)) ∧ Hid (Below w.heap.size w wr) ∧ Hid (w1.heap.size ≤ wr.heap.size)) (fun _ i _ => bl.length - (intOf i).toNat)
 case atStart => exact ⟨0, none, 0, Nat.zero_le _, rfl, rfl, fun _ => ⟨rfl, rfl⟩, Lib.hid (World.ownsRow_nil _ _ _ _), HL, HB, Lib.hid (Nat.le_refl _)⟩
 case round =>
  obtain ⟨j, A9, c9, hj, rfl, rfl, hz, HO, HL, HB, Hw1⟩ := hrel
  by_cases hlt : j < bl.length
  ·obtain ⟨ad, u, rfl, hbk, hu, hcell⟩ := HL.out.at_ hlt
   obtain ⟨is, hx, rfl⟩ := bls_get _ _ _ hu
   have Hx := Lib.hid hx
   have hs1 : j + 1 ≤ maxLen := by simp only [maxLen]; omega
   have hs2 : (j + 1) * 32 ≤ 70368744177664 := by omega
   have HbL := Lib.hid (show (ad.add j).block < w1.heap.size by rw [block_of_add]; exact hbk)
   have hc2 : (wr.alloc (.cells #[.bool false, .int .i64 0, .string ⟨#[]⟩] 23)).cell? (ad.add j) = some (.bool is) := (World.cell?_alloc_lt wr _ _ (Nat.lt_of_lt_of_le HbL.out Hw1.out)).trans hcell
   clear hu hx hbk hcell hz
   cases is with
   | false =>
    go_wp2_with (at_builtin
                 refine wpList_append_any _ rfl (.tmp 48) (.tmp 50) 24 rfl w1.heap.size 23 j0 (.agg #[.bool false, .int .i64 0, .string ⟨#[]⟩]) 3 32 Tryz.underlying24 hj0 hk0 hj1 hk2 rfl (by decide) A9 j c9 _ rfl (own_below HO.out (((Below.refl _ wr).alloc (Nat.le_refl _) (.cells #[.bool false, .int .i64 0, .string ⟨#[]⟩] 23)).alloc (by simp) (.cells #[.bool false, .int .i64 0, .string ⟨#[]⟩] 23))) (some ⟨_, 0, none⟩) 1 1 (cls [(false, 0, ⟨#[]⟩)]) rfl (by exact reads_cellb _ _ (by simp) _ _ _) (cls_one _) hs1 hs2 (Nat.le_trans Hw1.out (by simp; omega)) ?_
                 intro A8 c8 w8 r1 r2 r3 r4 r5
                 rw [← cls_append] at r1
                 have R1 := Lib.hid r1
                 have R2 := Lib.hid r2
                 clear r1 r2 r3 r4 r5)
    have R1 := Lib.hid (show w8.ownsRow w1.heap.size 23 3 (.slice A8 (j + 1) c8) (j + 1) (cls ((bl.take (j + 1)).map boolC)) by rw [List.take_add_one, Hx.out, List.map_append]; exact R1.out)
    have HL := Lib.hid (((HL.out.alloc Hw1.out (.cells #[.bool false, .int .i64 0, .string ⟨#[]⟩] 23)).alloc (Nat.le_trans Hw1.out (by simp)) (.cells #[.bool false, .int .i64 0, .string ⟨#[]⟩] 23)).below R2.out)
    have HB := Lib.hid (((HB.out.alloc HB.out.size (.cells #[.bool false, .int .i64 0, .string ⟨#[]⟩] 23)).alloc (Nat.le_trans HB.out.size (by simp)) (.cells #[.bool false, .int .i64 0, .string ⟨#[]⟩] 23)).trans (R2.out.mono HB1w.out))
    have Hw1 := Lib.hid (show w1.heap.size ≤ w8.heap.size from Nat.le_trans (Nat.le_trans Hw1.out (by simp; omega)) R2.out.size)
    go_roundw
    case rel => exact ⟨j + 1, A8, c8, by omega, rfl, by go_num, fun h => absurd h (by omega), R1, HL, HB, Hw1⟩
    case measure => simp [intOf]; omega
   | true =>
    go_wp2_with (at_builtin
                 refine wpList_append_any _ rfl (.tmp 48) (.tmp 50) 24 rfl w1.heap.size 23 j0 (.agg #[.bool false, .int .i64 0, .string ⟨#[]⟩]) 3 32 Tryz.underlying24 hj0 hk0 hj1 hk2 rfl (by decide) A9 j c9 _ rfl (own_below HO.out (((Below.refl _ wr).alloc (Nat.le_refl _) (.cells #[.bool false, .int .i64 1, .string ⟨#[]⟩] 23)).alloc (by simp) (.cells #[.bool false, .int .i64 1, .string ⟨#[]⟩] 23))) (some ⟨_, 0, none⟩) 1 1 (cls [(false, 1, ⟨#[]⟩)]) rfl (by exact reads_cellb _ _ (by simp) _ _ _) (cls_one _) hs1 hs2 (Nat.le_trans Hw1.out (by simp; omega)) ?_
                 intro A8 c8 w8 r1 r2 r3 r4 r5
                 rw [← cls_append] at r1
                 have R1 := Lib.hid r1
                 have R2 := Lib.hid r2
                 clear r1 r2 r3 r4 r5)
    have R1 := Lib.hid (show w8.ownsRow w1.heap.size 23 3 (.slice A8 (j + 1) c8) (j + 1) (cls ((bl.take (j + 1)).map boolC)) by rw [List.take_add_one, Hx.out, List.map_append]; exact R1.out)
    have HL := Lib.hid (((HL.out.alloc Hw1.out (.cells #[.bool false, .int .i64 1, .string ⟨#[]⟩] 23)).alloc (Nat.le_trans Hw1.out (by simp)) (.cells #[.bool false, .int .i64 1, .string ⟨#[]⟩] 23)).below R2.out)
    have HB := Lib.hid (((HB.out.alloc HB.out.size (.cells #[.bool false, .int .i64 1, .string ⟨#[]⟩] 23)).alloc (Nat.le_trans HB.out.size (by simp)) (.cells #[.bool false, .int .i64 1, .string ⟨#[]⟩] 23)).trans (R2.out.mono HB1w.out))
    have Hw1 := Lib.hid (show w1.heap.size ≤ w8.heap.size from Nat.le_trans (Nat.le_trans Hw1.out (by simp; omega)) R2.out.size)
    go_roundw
    case rel => exact ⟨j + 1, A8, c8, by omega, rfl, by go_num, fun h => absurd h (by omega), R1, HL, HB, Hw1⟩
    case measure => simp [intOf]; omega
  ·obtain rfl : j = bl.length := by omega
   go_wp2
   go_ret3
   rw [Hgb.out]
   by_cases he : er = 0
   ·subst he
    have ho := HO.out
    rw [List.take_of_length_le (Nat.le_refl _)] at ho
    obtain ⟨p1, p2⟩ := own_caps ho
    simp only [if_true]
    refine ⟨HB.out, by simpa using hus, A9, c9, by simp only [List.length_map]; rfl, by simpa using p1, p2, ?_⟩
    simp only [List.length_map]
    exact own_mono ho (HB1w.out)
   ·have hz2 := Hemp.out he
    obtain ⟨hb0, hs0⟩ := hz2
    subst hs0
    obtain ⟨h1, h2⟩ := hz (by rw [hb0]; rfl)
    subst h1 h2
    rw [if_neg he]
    refine ⟨HB.out, ?_, he⟩
    rw [hb0]
    rfl
set_option maxRecDepth 100000 in
set_option maxHeartbeats 2000000 in
theorem rsome4_any (B : Option Addr) (m cb : Nat) (xs : List UInt8) (n : Int) (w : World) (hr : Reads w w.heap.size 1 B m (u8s xs)) (hm : m ≤ cb) (hc : cb ≤ maxLen) (hn1 : -9223372036854775808 ≤ n) (hn2 : n ≤ 9223372036854775807) :
  Calls Tryz.prog 168 #[.slice B m cb, .int .i64 4, .int .i64 n] w (GotC3 (getB 4 xs n) w) := by
 obtain ⟨j0, hj0, hk0, hj1, hk2⟩ := info_parts cell_info
 have Hgb := Lib.hid (show getB 4 xs n = (match getDI xs n 1024 with
  | .ok (l, s) => if l.all (fun s => Lib.validD s.data.toList) = true then .ok (l.map txtC, s) else .error 90
  | .error e => .error e) by simp only [getB, show ¬ (4 : Int) = 1 by decide, if_false, if_true]; rfl)
 go_enter Tryz.func168, Tryz.ntmps168
 go_wp2_with fail
 with_reducible refine (refdget_any B m cb xs n 1024 _ hr hm hc hn1 hn2 (by decide)).mono ?_
 rintro e w1 ⟨q4, hm3⟩
 have HB := Lib.hid q4
 have HB1w := Lib.hid q4.size
 rcases hd : getDI xs n 1024 with er | ⟨bl, sz⟩
 ·have he0 : er ≠ 0 := fun h => getDI_err0 _ _ _ (by rw [hd, h])
  rw [hd] at hm3
  simp only at hm3
  subst hm3
  have HE := Lib.hid (show getB 4 xs n = .error er by rw [Hgb.out, hd])
  clear hd q4
  go_wp2
  go_loopw [9, 18] (fun v i wr => v = .slice none 0 0 ∧ i = .int .i64 0 ∧ wr = w1) (fun _ _ _ => 0)
  case atStart => exact ⟨rfl, rfl, rfl⟩
  case round =>
   obtain ⟨rfl, rfl, rfl⟩ := hrel
   go_wp2
   go_ret3
   rw [HE.out]
   exact ⟨HB.out, rfl, he0⟩
 ·have ho := getDI_only _ _ _ _ _ hd
  have hzs := getDI_sizes _ _ _ _ _ hd
  rw [hd] at hm3
  obtain ⟨AL, cL, rfl, q1, q2, q3⟩ := hm3
  have Hzs := Lib.hid hzs
  have hbl := ho.2.1
  have HE := Lib.hid (show getB 4 xs n = (if bl.all (fun s => Lib.validD s.data.toList) = true then .ok (bl.map txtC, sz) else .error 90) by rw [Hgb.out, hd])
  have HL := Lib.hid (Reads.of_own q3)
  clear hd ho hzs q1 q2 q3 q4
  go_wp2
  go_loopw [9, 18] (fun v i wr => ∃ (j : Nat) (A9 : Option Addr) (c9 : Nat), j ≤ bl.length ∧ v = .slice A9 j c9 ∧ i = .int .i64 (j : Int) ∧ Hid ((bl.take j).all (fun s => Lib.validD s.data.toList) = true) ∧ Hid (wr.ownsRow w1.heap.size 23 3 (.slice A9 j c9) j (cls ((bl.take j).map txtC))) ∧ Hid (Reads wr w1.heap.size 1 AL bl.length (txs bl)) ∧ Hid (Below w.heap.size w wr) ∧ Hid (w1.heap.size ≤ wr.heap.size)) (fun _ i _ => bl.length - (intOf i).toNat)
  case atStart => exact ⟨0, none, 0, Nat.zero_le _, rfl, rfl, Lib.hid rfl, Lib.hid (World.ownsRow_nil _ _ _ _), HL, HB, Lib.hid (Nat.le_refl _)⟩
  case round =>
   obtain ⟨j, A9, c9, hj, rfl, rfl, Hall, HO, HL, HB, Hw1⟩ := hrel
   by_cases hlt : j < bl.length
   ·obtain ⟨ad, u, rfl, hbk, hu, hcell⟩ := HL.out.at_ hlt
    obtain ⟨s, hx, rfl⟩ := txs_get _ _ _ hu
    have Hx := Lib.hid hx
    have Hs := Lib.hid (Hzs.out s (List.mem_of_getElem? hx))
    have HbL := Lib.hid (show (ad.add j).block < w1.heap.size by rw [block_of_add]; exact hbk)
    have hs1 : j + 1 ≤ maxLen := by simp only [maxLen]; omega
    have hs2 : (j + 1) * 32 ≤ 70368744177664 := by omega
    clear hu hx hbk
    go_wp2_with fail
    with_reducible refine (uvalid_any s _ (by have := Hs.out; simp only [maxLen]; omega)).mono ?_
    rintro e w5 ⟨rfl, hb5⟩
    have hcell := (hb5.cell (p := ad.add j) (Nat.lt_of_lt_of_le HbL.out Hw1.out)).trans hcell
    have HO := Lib.hid (own_below HO.out hb5)
    have HL := Lib.hid (HL.out.below (hb5.mono Hw1.out))
    have HB := Lib.hid (HB.out.trans (hb5.mono HB.out.size))
    have Hw1 := Lib.hid (Nat.le_trans Hw1.out hb5.size)
    clear hb5
    cases hv : Lib.validD s.data.toList with
    | false =>
     have HE2 := Lib.hid (show bl.all (fun s => Lib.validD s.data.toList) = false by rw [List.all_eq_false]; exact ⟨s, List.mem_of_getElem? Hx.out, by simp [hv]⟩)
     clear hv
     go_wp2
     go_ret3
     rw [HE.out, HE2.out]
     exact ⟨HB.out, rfl, by decide⟩
    | true =>
     have Hall2 := Lib.hid (show (bl.take (j + 1)).all (fun s => Lib.validD s.data.toList) = true by rw [List.take_add_one, Hx.out]; simp only [Option.toList_some, List.all_append, Hall.out, Bool.true_and, List.all_cons, List.all_nil, hv, Bool.and_true])
     clear hv
     go_wp2_with (at_builtin
                  refine wpList_append_any _ rfl (.tmp 76) (.tmp 82) 24 rfl w1.heap.size 23 j0 (.agg #[.bool false, .int .i64 0, .string ⟨#[]⟩]) 3 32 Tryz.underlying24 hj0 hk0 hj1 hk2 rfl (by decide) A9 j c9 _ rfl (own_below HO.out ((Below.refl _ w5).alloc (Nat.le_refl _) (.cells #[.bool false, .int .i64 0, .string s] 23))) (some ⟨_, 0, none⟩) 1 1 (cls [(false, 0, s)]) rfl (by exact reads_cellb _ _ (by simp) _ _ _) (cls_one _) hs1 hs2 (Nat.le_trans Hw1.out (by simp)) ?_
                  intro A8 c8 w8 r1 r2 r3 r4 r5
                  rw [← cls_append] at r1
                  have R1 := Lib.hid r1
                  have R2 := Lib.hid r2
                  clear r1 r2 r3 r4 r5)
     have R1 := Lib.hid (show w8.ownsRow w1.heap.size 23 3 (.slice A8 (j + 1) c8) (j + 1) (cls ((bl.take (j + 1)).map txtC)) by rw [List.take_add_one, Hx.out, List.map_append]; exact R1.out)
     have HL := Lib.hid ((HL.out.alloc Hw1.out (.cells #[.bool false, .int .i64 0, .string s] 23)).below R2.out)
     have HB := Lib.hid ((HB.out.alloc HB.out.size (.cells #[.bool false, .int .i64 0, .string s] 23)).trans (R2.out.mono HB1w.out))
     have Hw1 := Lib.hid (show w1.heap.size ≤ w8.heap.size from Nat.le_trans (Nat.le_trans Hw1.out (by simp)) R2.out.size)
     go_roundw
     case rel => exact ⟨j + 1, A8, c8, by omega, rfl, by go_num, Hall2, R1, HL, HB, Hw1⟩
     case measure => simp [intOf]; omega
   ·obtain rfl : j = bl.length := by omega
    go_wp2
    go_ret3
    rw [HE.out]
    have ho := HO.out
    have ha := Hall.out
    rw [List.take_of_length_le (Nat.le_refl _)] at ho ha
    obtain ⟨p1, p2⟩ := own_caps ho
    rw [if_pos ha]
    refine ⟨HB.out, by simpa using hbl, A9, c9, by simp only [List.length_map]; rfl, by simpa using p1, p2, ?_⟩
    simp only [List.length_map]
    exact own_mono ho HB1w.out
set_option maxRecDepth 100000 in
set_option maxHeartbeats 2000000 in
theorem rsomeI_any (k : Int) (hk : k = 2 ∨ k = 3) (B : Option Addr) (m cb : Nat) (xs : List UInt8) (N : Nat) (w : World) (hr : Reads w w.heap.size 1 B m (u8s xs)) (hm : m ≤ cb) (hc : cb ≤ maxLen) (hN : N ≤ 1048576) :
  Calls Tryz.prog 168 #[.slice B m cb, .int .i64 k, .int .i64 (N : Int)] w (GotC3 (iterC (stepI k xs) N) w) := by
 obtain ⟨j0, hj0, hk0, hj1, hk2⟩ := info_parts cell_info
 have hmk : mayK k = true := by rcases hk with rfl | rfl <;> rfl
 have hk1 : (k == 1) = false := by rcases hk with rfl | rfl <;> rfl
 have hk4 : (k == 4) = false := by rcases hk with rfl | rfl <;> rfl
 have hk5 : (k == 5) = false := by rcases hk with rfl | rfl <;> rfl
 have hk5' : (k != 5) = true := by rcases hk with rfl | rfl <;> rfl
 have Hr := Lib.hid hr
 have Hmx := Lib.hid hc
 have Hxl := Lib.hid (show xs.length = m from reads_len hr)
 clear hr hc
 go_enter Tryz.func168, Tryz.ntmps168
 go_wp2
 go_loopw [9, 19, 20] (fun v at_ i wr => ∃ (j : Nat) (lj : List Cl) (q : Nat) (A9 : Option Addr) (c9 : Nat), j ≤ N ∧ v = .slice A9 j c9 ∧ at_ = .int .i64 (q : Int) ∧ i = .int .i64 (j : Int) ∧ q ≤ m ∧ Hid (iterC (stepI k xs) j = .ok (lj, q)) ∧ Hid (lj.length = j) ∧ Hid (wr.ownsRow w.heap.size 23 3 (.slice A9 j c9) j (cls lj)) ∧ Hid (Below w.heap.size w wr)) (fun _ _ i _ => N - (intOf i).toNat)
 case atStart => exact ⟨0, [], 0, none, 0, Nat.zero_le _, rfl, rfl, rfl, Nat.zero_le _, Lib.hid rfl, Lib.hid rfl, Lib.hid (World.ownsRow_nil _ _ _ _), Lib.hid (Below.refl _ _)⟩
 case round =>
  obtain ⟨j, lj, q, A9, c9, hj, rfl, rfl, rfl, hqm, Hit, Hlj, HO, HB⟩ := hrel
  by_cases hlt : j < N
  ·have hgs := get_size (xs.drop q)
   rw [List.length_drop, Hxl.out] at hgs
   have Hgs := Lib.hid hgs
   have hcut := ((Hr.out.below HB.out).more HB.out.size).cut (k := q) hqm hm
   rw [Nat.mul_one, u8s_drop] at hcut
   have hcm : cb ≤ 9223372036854775807 := by have := Hmx.out; simp only [maxLen] at this; omega
   obtain ⟨A2, hA2⟩ : ∃ A2, (if cb = q then B else Option.map (fun x => x.add q) B) = A2 := ⟨_, rfl⟩
   rw [hA2] at hcut
   have Hcut := Lib.hid hcut
   clear hgs hcut
   go_wp2_with fail
   with_reducible refine (refGetInt_any A2 (m - q) (cb - q) (xs.drop q) _ Hcut.out (by omega) (by have := Hmx.out; omega)).mono ?_
   rintro e w3 ⟨rfl, rfl⟩
   have hlt64 := get_lt (xs.drop q)
   generalize hget : get (xs.drop q) = r at Hgs hlt64 ⊢
   obtain ⟨rn, rk, re⟩ := r
   have Hget := Lib.hid hget
   have Hzb := Lib.hid (zag_bounds rn hlt64)
   clear hget hlt64 hA2
   simp only [gottenInt] at Hgs ⊢
   by_cases he : re = 0
   ·subst he
    obtain ⟨q2, hq2⟩ : ∃ q2, q2 = q + rk := ⟨_, rfl⟩
    have hgs1 := Hgs.out.1
    have hq2m : q2 ≤ m := by omega
    have hsum : (q : Int) + (rk : Int) = (q2 : Int) := by omega
    have hmm : m ≤ 9223372036854775807 := by omega
    have Hq2 := Lib.hid hq2
    clear hq2 hgs1
    go_wp2_with fail
    with_reducible refine (rcheck_any3 k false false (zag rn) ⟨#[]⟩ _ ⟨Hzb.out.1, Hzb.out.2⟩).mono ?_
    rintro e w5 ⟨rfl, hb5⟩
    have HO := Lib.hid (own_below HO.out hb5)
    have HB := Lib.hid (HB.out.trans (hb5.mono HB.out.size))
    clear hb5
    have hE := checkE_is hmk false (zag rn) ⟨#[]⟩
    generalize checkE k false (false, zag rn, ⟨#[]⟩) = E0 at hE ⊢
    cases hI : isC k (false, zag rn, ⟨#[]⟩) with
    | false =>
     rw [hI] at hE
     simp only [Bool.false_eq_true, if_false] at hE
     subst hE
     have Hst := Lib.hid (iterC_err (iterC_next Hit.out (show stepI k xs (lj, q) = .error 90 by unfold stepI; simp only; rw [Hget.out]; simp only [if_true]; rw [if_neg (by unfold intC; rw [hI]; simp)])) (show j + 1 ≤ N by omega))
     clear hI
     go_wp2
     go_ret3
     rw [Hst.out]
     exact ⟨HB.out, rfl, by decide⟩
    | true =>
     rw [hI] at hE
     simp only [if_true] at hE
     subst hE
     have Hit2 := Lib.hid (iterC_next Hit.out (show stepI k xs (lj, q) = .ok (lj ++ [intC (zag rn)], q2) by unfold stepI; simp only; rw [Hget.out]; simp only [if_true]; rw [if_pos (by unfold intC; rw [hI]), Hq2.out]))
     have hs1 : j + 1 ≤ maxLen := by simp only [maxLen]; omega
     have hs2 : (j + 1) * 32 ≤ 70368744177664 := by omega
     clear hI
     go_wp2_with (at_builtin
                  refine wpList_append_any _ rfl (.tmp 114) (.tmp 117) 24 rfl w.heap.size 23 j0 (.agg #[.bool false, .int .i64 0, .string ⟨#[]⟩]) 3 32 Tryz.underlying24 hj0 hk0 hj1 hk2 rfl (by decide) A9 j c9 _ rfl (own_below HO.out ((Below.refl _ w5).alloc (Nat.le_refl _) (.cells #[.bool false, .int .i64 (zag rn), .string ⟨#[]⟩] 23))) (some ⟨_, 0, none⟩) 1 1 (cls [(false, (zag rn), ⟨#[]⟩)]) rfl (by exact reads_cellb _ _ (by simp) _ _ _) (cls_one _) hs1 hs2 (Nat.le_trans HB.out.size (by simp)) ?_
                  intro A8 c8 w8 r1 r2 r3 r4 r5
                  rw [← cls_append] at r1
                  have R1 := Lib.hid r1
                  have R2 := Lib.hid r2
                  clear r1 r2 r3 r4 r5)
     have HB := Lib.hid ((HB.out.alloc HB.out.size (.cells #[.bool false, .int .i64 (zag rn), .string ⟨#[]⟩] 23)).trans R2.out)
     go_roundw
     case rel => exact ⟨j + 1, lj ++ [intC (zag rn)], q2, A8, c8, by omega, rfl, rfl, by go_num, hq2m, Hit2, Lib.hid (by simp [Hlj.out]), R1, HB⟩
     case measure => simp [intOf]; omega
   ·have hne : ((re : Int) == 0) = false := by simp; omega
    have hne2 : ((re : Int) != 0) = true := by simp; omega
    have Hst := Lib.hid (iterC_err (iterC_next Hit.out (show stepI k xs (lj, q) = .error re by unfold stepI; simp only; rw [Hget.out]; simp only; rw [if_neg he])) (show j + 1 ≤ N by omega))
    go_wp2
    go_ret3
    rw [Hst.out]
    exact ⟨HB.out, rfl, he⟩
  ·obtain rfl : j = N := by omega
   go_wp2
   go_ret3
   rw [Hit.out]
   obtain ⟨q1, q2⟩ := own_caps HO.out
   have hl := Hlj.out
   refine ⟨HB.out, by rw [hl]; exact hN, A9, c9, by rw [hl]; rfl, by rw [hl]; exact q1, q2, by rw [hl]; exact HO.out⟩
set_option maxRecDepth 100000 in
set_option maxHeartbeats 2000000 in
theorem rsome5_any (B : Option Addr) (m cb : Nat) (xs : List UInt8) (N : Nat) (w : World) (hr : Reads w w.heap.size 1 B m (u8s xs)) (hm : m ≤ cb) (hc : cb ≤ maxLen) (hN : N ≤ 1048576) :
  Calls Tryz.prog 168 #[.slice B m cb, .int .i64 5, .int .i64 (N : Int)] w (GotC3 (iterC (stepR xs) N) w) := by
 obtain ⟨j0, hj0, hk0, hj1, hk2⟩ := info_parts cell_info
 have Hr := Lib.hid hr
 have Hmx := Lib.hid hc
 have Hxl := Lib.hid (show xs.length = m from reads_len hr)
 clear hr hc
 go_enter Tryz.func168, Tryz.ntmps168
 go_wp2
 go_loopw [9, 19, 20] (fun v at_ i wr => ∃ (j : Nat) (lj : List Cl) (q : Nat) (A9 : Option Addr) (c9 : Nat), j ≤ N ∧ v = .slice A9 j c9 ∧ at_ = .int .i64 (q : Int) ∧ i = .int .i64 (j : Int) ∧ q ≤ m ∧ Hid (iterC (stepR xs) j = .ok (lj, q)) ∧ Hid (lj.length = j) ∧ Hid (wr.ownsRow w.heap.size 23 3 (.slice A9 j c9) j (cls lj)) ∧ Hid (Below w.heap.size w wr)) (fun _ _ i _ => N - (intOf i).toNat)
 case atStart => exact ⟨0, [], 0, none, 0, Nat.zero_le _, rfl, rfl, rfl, Nat.zero_le _, Lib.hid rfl, Lib.hid rfl, Lib.hid (World.ownsRow_nil _ _ _ _), Lib.hid (Below.refl _ _)⟩
 case round =>
  obtain ⟨j, lj, q, A9, c9, hj, rfl, rfl, rfl, hqm, Hit, Hlj, HO, HB⟩ := hrel
  by_cases hlt : j < N
  ·have hgs := get_size (xs.drop q)
   rw [List.length_drop, Hxl.out] at hgs
   have Hgs := Lib.hid hgs
   have hcut := ((Hr.out.below HB.out).more HB.out.size).cut (k := q) hqm hm
   rw [Nat.mul_one, u8s_drop] at hcut
   have hcm : cb ≤ 9223372036854775807 := by have := Hmx.out; simp only [maxLen] at this; omega
   obtain ⟨A2, hA2⟩ : ∃ A2, (if cb = q then B else Option.map (fun x => x.add q) B) = A2 := ⟨_, rfl⟩
   rw [hA2] at hcut
   have Hcut := Lib.hid hcut
   clear hgs hcut
   go_wp2_with fail
   with_reducible refine (refGet_any A2 (m - q) (cb - q) (xs.drop q) _ Hcut.out (by omega) (by have := Hmx.out; omega)).mono ?_
   rintro e w3 ⟨rfl, rfl⟩
   generalize hget : get (xs.drop q) = r at Hgs ⊢
   obtain ⟨rn, rk, re⟩ := r
   have Hget := Lib.hid hget
   clear hget hA2
   simp only [gotten] at Hgs ⊢
   by_cases he : re = 0
   ·subst he
    obtain ⟨q2, hq2⟩ : ∃ q2, q2 = q + rk := ⟨_, rfl⟩
    have hgs1 := Hgs.out.1
    have hq2m : q2 ≤ m := by omega
    have hsum : (q : Int) + (rk : Int) = (q2 : Int) := by omega
    have hmm : m ≤ 9223372036854775807 := by omega
    have Hq2 := Lib.hid hq2
    clear hq2 hgs1
    by_cases hbig : 1024 < rn
    ·have d5 : decide ((1024 : Int) < (rn : Int)) = true := by simp; omega
     have Hst := Lib.hid (iterC_err (iterC_next Hit.out (show stepR xs (lj, q) = .error 5 by unfold stepR; simp only; rw [Hget.out]; simp only [if_true]; rw [if_pos hbig])) (show j + 1 ≤ N by omega))
     go_wp2
     go_ret3
     rw [Hst.out]
     exact ⟨HB.out, rfl, by decide⟩
    ·have d5 : decide ((1024 : Int) < (rn : Int)) = false := by simp; omega
     have Hbig := Lib.hid hbig
     have hrn : rn ≤ 1024 := by omega
     by_cases hsh : m - q2 < rn
     ·have d6 : decide ((m : Int) - (q2 : Int) < (rn : Int)) = true := by simp; omega
      have Hst := Lib.hid (iterC_err (iterC_next Hit.out (show stepR xs (lj, q) = .error 3 by
       unfold stepR; simp only; rw [Hget.out]; simp only [if_true]
       rw [if_neg Hbig.out, if_pos (by rw [Hxl.out]; have := Hq2.out; omega)])) (show j + 1 ≤ N by omega))
      go_wp2
      go_ret3
      rw [Hst.out]
      exact ⟨HB.out, rfl, by decide⟩
     ·have d6 : decide ((m : Int) - (q2 : Int) < (rn : Int)) = false := by simp; omega
      obtain ⟨q3, hq3⟩ : ∃ q3, q3 = q2 + rn := ⟨_, rfl⟩
      have hq3m : q3 ≤ m := by omega
      have hsum3 : (q2 : Int) + (rn : Int) = (q3 : Int) := by omega
      have Hit2 := Lib.hid (iterC_next Hit.out (show stepR xs (lj, q) = .ok (lj ++ [txtC (txt ((xs.drop q2).take (q3 - q2)))], q3) by
       unfold stepR; simp only; rw [Hget.out]; simp only [if_true]
       rw [if_neg Hbig.out, if_neg (by rw [Hxl.out]; have := Hq2.out; omega), ← Hq2.out, ← hq3, show q3 - q2 = rn by omega]))
      have hcut2 := ((Hr.out.below HB.out).more HB.out.size).cut (k := q2) hq2m hm
      rw [Nat.mul_one, u8s_drop] at hcut2
      have hcut3 := hcut2.head (k := q3 - q2) (by omega)
      rw [Nat.mul_one, u8s_take] at hcut3
      obtain ⟨A4, hA4⟩ : ∃ A4, (if cb = q2 then B else Option.map (fun x => x.add q2) B) = A4 := ⟨_, rfl⟩
      rw [hA4] at hcut3
      have hCV := run_bytes_string (P := Tryz.prog) wr 35 9 5 Tryz.underlying35 Tryz.underlying5 Tryz.underlying9 _ A4 (q3 - q2) (cb - q2) _ hcut3
      have hs1 : j + 1 ≤ maxLen := by simp only [maxLen]; omega
      have hs2 : (j + 1) * 32 ≤ 70368744177664 := by omega
      have hq32 : q2 ≤ q3 := by omega
      have hq3c : q3 ≤ cb := by omega
      have hsl : (txt ((xs.drop q2).take (q3 - q2)) : ByteArray) = ⟨((xs.drop q2).take (q3 - q2)).toArray⟩ := rfl
      rw [← hsl] at hCV
      clear hcut2 hcut3 hq3 hbig hsh hsl
      generalize txt ((xs.drop q2).take (q3 - q2)) = s at Hit2 hCV
      go_wp2_with (at_builtin
                   refine wpList_append_any _ rfl (.tmp 142) (.tmp 152) 24 rfl w.heap.size 23 j0 (.agg #[.bool false, .int .i64 0, .string ⟨#[]⟩]) 3 32 Tryz.underlying24 hj0 hk0 hj1 hk2 rfl (by decide) A9 j c9 _ rfl (own_below HO.out ((Below.refl _ wr).alloc (Nat.le_refl _) (.cells #[.bool false, .int .i64 0, .string s] 23))) (some ⟨_, 0, none⟩) 1 1 (cls [(false, 0, s)]) rfl (by exact reads_cellb _ _ (by simp) _ _ _) (cls_one _) hs1 hs2 (Nat.le_trans HB.out.size (by simp)) ?_
                   intro A8 c8 w8 r1 r2 r3 r4 r5
                   rw [← cls_append] at r1
                   have R1 := Lib.hid r1
                   have R2 := Lib.hid r2
                   clear r1 r2 r3 r4 r5)
      have HB := Lib.hid ((HB.out.alloc HB.out.size (.cells #[.bool false, .int .i64 0, .string s] 23)).trans R2.out)
      go_roundw
      case rel => exact ⟨j + 1, lj ++ [txtC s], q3, A8, c8, by omega, rfl, by go_num, by go_num, hq3m, Hit2, Lib.hid (by simp [Hlj.out]), R1, HB⟩
      case measure => simp [intOf]; omega
   ·have hne : ((re : Int) == 0) = false := by simp; omega
    have hne2 : ((re : Int) != 0) = true := by simp; omega
    have Hst := Lib.hid (iterC_err (iterC_next Hit.out (show stepR xs (lj, q) = .error re by unfold stepR; simp only; rw [Hget.out]; simp only; rw [if_neg he])) (show j + 1 ≤ N by omega))
    go_wp2
    go_ret3
    rw [Hst.out]
    exact ⟨HB.out, rfl, he⟩
  ·obtain rfl : j = N := by omega
   go_wp2
   go_ret3
   rw [Hit.out]
   obtain ⟨q1, q2⟩ := own_caps HO.out
   have hl := Hlj.out
   refine ⟨HB.out, by rw [hl]; exact hN, A9, c9, by rw [hl]; rfl, by rw [hl]; exact q1, q2, by rw [hl]; exact HO.out⟩
theorem rsome_any (k : Int) (B : Option Addr) (m cb : Nat) (xs : List UInt8) (N : Nat) (w : World) (hr : Reads w w.heap.size 1 B m (u8s xs)) (hm : m ≤ cb) (hc : cb ≤ maxLen) (hN : N ≤ 1048576) (h1 : 1 ≤ k) (h5 : k ≤ 5) :
  Calls Tryz.prog 168 #[.slice B m cb, .int .i64 k, .int .i64 (N : Int)] w (GotC3 (getB k xs (N : Int)) w) := by
 rcases (show k = 1 ∨ k = 2 ∨ k = 3 ∨ k = 4 ∨ k = 5 by omega) with rfl | rfl | rfl | rfl | rfl
 ·exact rsome1_any B m cb xs N w hr hm hc (by omega) (by omega)
 ·have e : getB 2 xs (N : Int) = iterC (stepI 2 xs) N := by simp only [getB, show ¬ (2 : Int) = 1 by decide, show ¬ (2 : Int) = 4 by decide, show ¬ (2 : Int) = 5 by decide, if_false, Int.toNat_natCast]
  rw [e]
  exact rsomeI_any 2 (.inl rfl) B m cb xs N w hr hm hc hN
 ·have e : getB 3 xs (N : Int) = iterC (stepI 3 xs) N := by simp only [getB, show ¬ (3 : Int) = 1 by decide, show ¬ (3 : Int) = 4 by decide, show ¬ (3 : Int) = 5 by decide, if_false, Int.toNat_natCast]
  rw [e]
  exact rsomeI_any 3 (.inr rfl) B m cb xs N w hr hm hc hN
 ·exact rsome4_any B m cb xs N w hr hm hc (by omega) (by omega)
 ·have e : getB 5 xs (N : Int) = iterC (stepR xs) N := by simp only [getB, show ¬ (5 : Int) = 1 by decide, show ¬ (5 : Int) = 4 by decide, if_true, if_false, Int.toNat_natCast]
  rw [e]
  exact rsome5_any B m cb xs N w hr hm hc hN
end Go.Proofs.YtjpjalmilfgckaaGreatDoor
namespace Go.Proofs.YtjpjalmilfgckaaGreatDoor
open Go.RowKit
set_option maxRecDepth 100000 in
set_option maxHeartbeats 2000000 in
theorem rget_any (B : Option Addr) (m cb : Nat) (xs : List UInt8) (k : Int) (nl : Bool) (n : Int) (w : World) (hr : Reads w w.heap.size 1 B m (u8s xs)) (hm : m ≤ cb) (hc : cb ≤ maxLen) (hn1 : -9223372036854775808 ≤ n) (hn2 : n ≤ 9223372036854775807) :
  Calls Tryz.prog 113 #[.slice B m cb, .agg #[.int .i64 k, .bool nl], .int .i64 n] w (GotC3 (getC k nl xs n) w) := by
 obtain ⟨j0, hj0, hk0, hj1, hk2⟩ := info_parts cell_info
 have Hr := Lib.hid hr
 have Hmc := Lib.hid (And.intro hm hc)
 have Hxl := Lib.hid (show xs.length = m from reads_len hr)
 have B4 := Lib.hid (Blk.new w 43 #[.int .i64 k, .bool nl])
 clear hr hm hc
 go_enter Tryz.func113, Tryz.ntmps113
 go_wp2_with fail
 with_reducible refine (rmay_any k nl _).mono ?_
 rintro e w1 ⟨rfl, hb1⟩
 have HB := Lib.hid (bon ((Below.refl _ w).alloc (Nat.le_refl _) (.cells #[.int .i64 k, .bool nl] 43)) hb1)
 replace B4 := Lib.hid (B4.out.on hb1)
 clear hb1
 cases hmk : mayK k with
 | false =>
  have HE := Lib.hid (show getC k nl xs n = .error 2 by unfold getC; rw [if_pos hmk])
  go_wp2
  go_ret3
  rw [HE.out]
  exact ⟨HB.out, rfl, by decide⟩
 | true =>
  obtain ⟨hk1, hk5⟩ : 1 ≤ k ∧ k ≤ 5 := by simpa [mayK] using hmk
  by_cases hn0 : n < 0
  ·have d1 : decide (n < 0) = true := decide_eq_true hn0
   have HE := Lib.hid (show getC k nl xs n = .error 6 by unfold getC; rw [if_neg (by simp [hmk]), if_pos (.inl hn0)])
   go_wp2
   go_ret3
   rw [HE.out]
   exact ⟨HB.out, rfl, by decide⟩
  ·have d1 : decide (n < 0) = false := decide_eq_false hn0
   by_cases hn1' : 1048576 < n
   ·have d2 : decide (1048576 < n) = true := decide_eq_true hn1'
    have HE := Lib.hid (show getC k nl xs n = .error 6 by unfold getC; rw [if_neg (by simp [hmk]), if_pos (.inr hn1')])
    go_wp2
    go_ret3
    rw [HE.out]
    exact ⟨HB.out, rfl, by decide⟩
   ·have d2 : decide (1048576 < n) = false := decide_eq_false hn1'
    have hgc : getC k nl xs n = if nl = false then getB k xs n else if (unpackL xs n).2.2 = 0 then
      (match getB k (xs.drop (unpackL xs n).2.1) (countL (unpackL xs n).1 : Int) with
       | .ok (l, s) => .ok (mergeL (unpackL xs n).1 l, (unpackL xs n).2.1 + s)
       | .error e => .error e)
     else .error (unpackL xs n).2.2 := by
     unfold getC
     rw [if_neg (by simp [hmk]), if_neg (by omega)]
     rfl
    have Hgc := Lib.hid hgc
    obtain ⟨N, rfl⟩ : ∃ N : Nat, n = (N : Int) := ⟨n.toNat, by omega⟩
    have HN := Lib.hid (show N ≤ 1048576 by omega)
    have c40 := B4.out.cell 0
    have c41 := B4.out.cell 1
    clear hgc hn0 hn1'
    cases nl with
    | false =>
     have hgc2 := Hgc.out
     rw [if_pos rfl] at hgc2
     have Hgc := Lib.hid hgc2
     clear hgc2
     go_wp2_with fail
     with_reducible refine (rsome_any k B m cb xs N _ ((Hr.out.below HB.out).more HB.out.size) Hmc.out.1 Hmc.out.2 HN.out hk1 hk5).mono ?_
     rintro e w3 ⟨hb3, hm3⟩
     have HB := Lib.hid (HB.out.trans (hb3.mono HB.out.size))
     have HBw := Lib.hid (show w.heap.size ≤ w1.heap.size from B4.out.lt |> Nat.le_of_lt)
     rcases hg : getB k xs (N : Int) with er | ⟨l, s⟩
     ·rw [hg] at hm3
      obtain ⟨rfl, he⟩ := hm3
      have HE := Lib.hid (Hgc.out.trans hg)
      clear hg hb3
      go_wp2
      go_ret3
      rw [HE.out]
      exact ⟨HB.out, rfl, he⟩
     ·rw [hg] at hm3
      obtain ⟨q1, A7, c7, rfl, q2, q3, q4⟩ := hm3
      have HE := Lib.hid (Hgc.out.trans hg)
      have Q := Lib.hid (And.intro q1 (And.intro q2 (And.intro q3 q4)))
      clear hg hb3 q1 q2 q3 q4
      go_wp2
      go_ret3
      rw [HE.out]
      exact ⟨HB.out, Q.out.1, A7, c7, rfl, Q.out.2.1, Q.out.2.2.1, own_mono Q.out.2.2.2 HBw.out⟩
    | true =>
     have hgc2 := Hgc.out
     rw [if_neg (by simp)] at hgc2
     have Hgc := Lib.hid hgc2
     clear hgc2
     go_wp2_with fail
     with_reducible refine (refmunpack_any B m cb xs N _ ((Hr.out.below HB.out).more HB.out.size) Hmc.out.1 Hmc.out.2 (by have := HN.out; omega) (by have := HN.out; omega)).mono ?_
     rintro e w3 ⟨AT, cT, rfl, q1, q2, q3, q4⟩
     have hlen0 : (unpackL xs (N : Int)).2.2 = 0 → (unpackL xs (N : Int)).1.length = N := by
      rcases unpackL_only xs (N : Int) with ⟨l, t, e, hh, -⟩ | ⟨e, h, hh, -⟩
      ·rw [e]; intro _; simp only; omega
      ·rw [h]; intro h0; exact absurd h0 hh
     have hsz0 := (unpackL_size xs (N : Int)).1
     rw [Hxl.out] at hsz0
     generalize unpackL xs (N : Int) = r at *
     obtain ⟨bl, sz, er⟩ := r
     simp only at q1 q2 q3 q4 hlen0 hsz0 Hgc
     have B4 := Lib.hid (B4.out.on q4)
     have HB := Lib.hid (HB.out.trans (q4.mono HB.out.size))
     by_cases he : er = 0
     ·subst he
      have hgc2 := Hgc.out
      simp only [if_true] at hgc2
      have Hgc := Lib.hid hgc2
      have HbN := Lib.hid (hlen0 rfl)
      have HL := Lib.hid q3
      have Q1 := Lib.hid (And.intro q1 q2)
      have hcl : countL bl ≤ 1048576 := Nat.le_trans (countL_le bl) (by rw [HbN.out]; exact HN.out)
      have Hcl := Lib.hid hcl
      clear hgc2 hlen0 q1 q2 q3 q4 hcl c40 c41
      go_wp2
      have hS : Below w3.heap.size w3 w3.drew := (Below.refl _ _).drew
      have HK := Lib.hid (show ∀ w', Below w3.heap.size w3 w' → w'.cell? ⟨w.heap.size, 0, none⟩ = some (.int .i64 k) from fun w' h => (B4.out.on h).cell 0)
      have hcut := ((Hr.out.below HB.out).more HB.out.size).cut (k := sz) hsz0 Hmc.out.1
      rw [Nat.mul_one, u8s_drop] at hcut
      have hcm : cb ≤ 9223372036854775807 := by have := Hmc.out.2; simp only [maxLen] at this; omega
      have hmc1 := Hmc.out.1
      obtain ⟨A2, hA2⟩ : ∃ A2, (if cb = sz then B else Option.map (fun x => x.add sz) B) = A2 := ⟨_, rfl⟩
      rw [hA2] at hcut
      have Hcut := Lib.hid hcut
      have d1' : ((sz : Nat) : Int).toNat = sz := by simp
      clear hcut
      refine wp_region_keep (fun w' => Below w3.heap.size w3 w') [(0, false), (1, false), (2, false), (3, false), (4, false), (5, false), (6, true), (7, true), (8, false), (9, false), (10, false), (11, false), (12, false), (13, false), (14, false)] (by kernel_rfl) (by kernel_rfl) (by kernel_rfl) (fun d _ _ _ _ h => by cases d <;> exact h) ?_
      iterate 4
       refine held_pure (v := ?_) rfl rfl (by simp [Region.wanted, yielded]) hS ?_ ?_
       rotate_left
       ·intro w hw; go_simp; try with_reducible rfl
       try simp only [Act.put, zpA, zpB, zpC]
      refine held_pure (v := ?_) rfl rfl (by simp [Region.wanted, yielded]) hS ?_ ?_
      rotate_left
      ·intro w hw; have c0 := HK.out w hw; clear hw; go_simp; try with_reducible rfl
      try simp only [Act.put, zpA, zpB, zpC]
      refine held_pure (v := ?_) rfl rfl (by simp [Region.wanted, yielded]) hS ?_ ?_
      rotate_left
      ·intro w hw; go_simp; try with_reducible rfl
      try simp only [Act.put, zpA, zpB, zpC]
      clear hA2
      refine held_eff1 rfl (by simp [Region.wanted, yielded]) fun K hK => ?_
      go_simp
      with_reducible refine (refmcount_any AT bl.length cT bl _ (HL.out.on hS) Q1.out.1 Q1.out.2).mono ?_
      rintro e w5 ⟨rfl, rfl⟩
      refine held_go hK (by exact hS) fun hS => ?_
      clear hK K
      try simp only [Act.put, zpA, zpB, zpC]
      refine held_eff1 rfl (by simp [Region.wanted, yielded]) fun K hK => ?_
      go_simp
      with_reducible refine (rsome_any k A2 (m - sz) (cb - sz) (xs.drop sz) (countL bl) _ (Hcut.out.on hS) (by omega) (by have := Hmc.out.2; omega) Hcl.out hk1 hk5).mono ?_
      rintro e w7 ⟨hb7, hm7⟩
      rcases hg : getB k (xs.drop sz) (countL bl : Int) with er | ⟨l, s⟩
      ·rw [hg] at hm7
       obtain ⟨rfl, he⟩ := hm7
       have HE := Lib.hid (show getC k true xs (N : Int) = .error er by rw [Hgc.out, hg]; simp)
       have hne : ((er : Int) == 0) = false := by simp; omega
       have hne2 : ((er : Int) != 0) = true := by simp; omega
       clear hg
       refine held_go hK (by exact bon hS hb7) fun hS => ?_
       clear hK K
       try simp only [Act.put, zpA, zpB, zpC]
       clear hb7
       iterate 7
        refine held_pure (v := ?_) rfl rfl (by simp [Region.wanted, yielded]) hS ?_ ?_
        rotate_left
        ·intro w hw; go_simp; try with_reducible rfl
        try simp only [Act.put, zpA, zpB, zpC]
       refine held_end ?_
       go_wp2
       go_ret3
       rw [HE.out]
       exact ⟨HB.out.trans (hS.mono HB.out.size), rfl, he⟩
      ·rw [hg] at hm7
       obtain ⟨q3, A7, c7, rfl, q5, q6, q7⟩ := hm7
       have HE := Lib.hid (show getC k true xs (N : Int) = .ok (mergeL bl l, sz + s) by rw [Hgc.out, hg]; simp)
       have hgo := getB_only k hk1 hk5 _ _ l s hg
       have Hlen := Lib.hid hgo.1
       have Hsm := Lib.hid (show s ≤ m - sz by have := hgo.2.2.1; rw [List.length_drop, Hxl.out] at this; exact this)
       have HR := Lib.hid (Reads.of_own q7)
       have Q3 := Lib.hid q3
       clear hg hgo q3 q5 q6 q7
       refine held_go hK (by exact bon hS hb7) fun hS => ?_
       clear hK K
       try simp only [Act.put, zpA, zpB, zpC]
       clear hb7
       iterate 7
        refine held_pure (v := ?_) rfl rfl (by simp [Region.wanted, yielded]) hS ?_ ?_
        rotate_left
        ·intro w hw; go_simp; try with_reducible rfl
        try simp only [Act.put, zpA, zpB, zpC]
       refine held_end ?_
       obtain ⟨b2, hb2⟩ : ∃ b2, b2 = w7.heap.size := ⟨_, rfl⟩
       have HL := Lib.hid (show Reads w7 b2 1 AT bl.length (bls bl) by rw [hb2]; exact HL.out.on hS)
       have HR := Lib.hid (show Reads w7 b2 3 A7 l.length (cls l) by rw [hb2]; exact HR.out)
       have HB := Lib.hid (HB.out.trans (hS.mono HB.out.size))
       have Hwb := Lib.hid (show w.heap.size ≤ b2 by rw [hb2]; exact HB.out.size)
       have Hb2 := Lib.hid (show b2 ≤ w7.heap.size by omega)
       have hN2 := HN.out
       clear hS hb2 HK
       go_wp2
       go_loopw [15, 16, 17] (fun v kk i wr => ∃ (j : Nat) (A9 : Option Addr) (c9 : Nat), j ≤ N ∧ v = .slice A9 j c9 ∧ kk = .int .i64 ((countL (bl.take j) : Nat) : Int) ∧ i = .int .i64 (j : Int) ∧ Hid (wr.ownsRow b2 23 3 (.slice A9 j c9) j (cls (mergeL (bl.take j) l))) ∧ Hid (Reads wr b2 1 AT bl.length (bls bl)) ∧ Hid (Reads wr b2 3 A7 l.length (cls l)) ∧ Hid (b2 ≤ wr.heap.size) ∧ Hid (Below w.heap.size w wr)) (fun _ _ i _ => N - (intOf i).toNat)
       case atStart => exact ⟨0, none, 0, Nat.zero_le _, rfl, by simp [countL], rfl, Lib.hid (by simpa [mergeL, cls] using World.ownsRow_nil _ _ _ _), HL, HR, Hb2, HB⟩
       case round =>
        obtain ⟨j, A9, c9, hj, rfl, rfl, rfl, HO, HL, HR, Hb2, HB⟩ := hrel
        by_cases hlt : j < N
        ·obtain ⟨ad, u, rfl, hbk, hu, hcell⟩ := HL.out.at_ (show j < bl.length by have := HbN.out; omega)
         obtain ⟨is, hx, rfl⟩ := bls_get _ _ _ hu
         have Hx := Lib.hid hx
         have hms := mergeL_step bl l j is hx (by rw [Hlen.out]; exact Nat.le_refl _)
         have Hms := Lib.hid hms
         have hjb : j < bl.length := by have := HbN.out; omega
         have hs1 : j + 1 ≤ maxLen := by simp only [maxLen]; omega
         have hs2 : (j + 1) * 32 ≤ 70368744177664 := by omega
         have hct := count_step bl j is hx
         have hle := countL_append (bl.take (j + 1)) (bl.drop (j + 1))
         rw [List.take_append_drop] at hle
         obtain ⟨cj, hcj⟩ : ∃ cj, cj = countL (bl.take j) := ⟨_, rfl⟩
         rw [← hcj] at hct Hms ⊢
         have hcc := Hcl.out
         have hll := Hlen.out
         clear hu hx hbk hms hcj
         cases is with
         | false =>
          simp only [Bool.false_eq_true, if_false, Nat.add_zero] at hct
          have Hct := Lib.hid hct
          have HM := Lib.hid (show mergeL (bl.take (j + 1)) l = mergeL (bl.take j) l ++ [(true, 0, ⟨#[]⟩)] by rw [Hms.out]; rfl)
          clear hct hle hll
          go_wp2_with (at_builtin
                       refine wpList_append_any _ rfl (.tmp 81) (.tmp 83) 24 rfl b2 23 j0 (.agg #[.bool false, .int .i64 0, .string ⟨#[]⟩]) 3 32 Tryz.underlying24 hj0 hk0 hj1 hk2 rfl (by decide) A9 j c9 _ rfl (own_below HO.out ((Below.refl _ wr).alloc (Nat.le_refl _) (.cells #[.bool true, .int .i64 0, .string ⟨#[]⟩] 23))) (some ⟨_, 0, none⟩) 1 1 (cls [(true, 0, ⟨#[]⟩)]) rfl (by exact reads_cellb _ _ (by simp) _ _ _) (cls_one _) hs1 hs2 (Nat.le_trans Hb2.out (by simp)) ?_
                       intro A8 c8 w8 r1 r2 r3 r4 r5
                       have R1 := Lib.hid r1
                       have R2 := Lib.hid r2
                       clear r1 r2 r3 r4 r5)
          have HX := Lib.hid (show w8.ownsRow b2 23 3 (.slice A8 (j + 1) c8) (j + 1) (cls (mergeL (bl.take (j + 1)) l)) by rw [HM.out, cls_append]; exact R1.out)
          have HL := Lib.hid ((HL.out.alloc Hb2.out (.cells #[.bool true, .int .i64 0, .string ⟨#[]⟩] 23)).below R2.out)
          have HR := Lib.hid ((HR.out.alloc Hb2.out (.cells #[.bool true, .int .i64 0, .string ⟨#[]⟩] 23)).below R2.out)
          have HB := Lib.hid ((HB.out.alloc HB.out.size (.cells #[.bool true, .int .i64 0, .string ⟨#[]⟩] 23)).trans (R2.out.mono Hwb.out))
          have Hb2 := Lib.hid (show b2 ≤ w8.heap.size from Nat.le_trans (Nat.le_trans Hb2.out (by simp)) R2.out.size)
          go_roundw
          case rel => exact ⟨j + 1, A8, c8, by omega, rfl, by first | (rw [Hct.out]; done) | (rw [Hct.out]; go_num), by go_num, HX, HL, HR, Hb2, HB⟩
          case measure => simp [intOf]; omega
         | true =>
          simp only [if_true] at hct
          have hcl2 : cj < l.length := by omega
          have hcli : (cj : Int) < (l.length : Int) := by omega
          have Hct := Lib.hid hct
          obtain ⟨ad2, u2, m2, s2, hA7, hbk2, hx2, h0, h1, h2⟩ := cls_at HR.out hcl2
          have HA7 := Lib.hid hA7
          subst hA7
          have HM := Lib.hid (show mergeL (bl.take (j + 1)) l = mergeL (bl.take j) l ++ [(u2, m2, s2)] by rw [Hms.out, hx2]; rfl)
          have hcb : cj < 1048576 := by omega
          clear hct hle hll hx2 hbk2
          go_wp2_with (at_builtin
                       refine wpList_append_any _ rfl (.tmp 72) (.tmp 77) 24 rfl b2 23 j0 (.agg #[.bool false, .int .i64 0, .string ⟨#[]⟩]) 3 32 Tryz.underlying24 hj0 hk0 hj1 hk2 rfl (by decide) A9 j c9 _ rfl (own_below HO.out ((Below.refl _ wr).alloc (Nat.le_refl _) (.cells #[.bool u2, .int .i64 m2, .string s2] 23))) (some ⟨_, 0, none⟩) 1 1 (cls [(u2, m2, s2)]) rfl (by exact reads_cellb _ _ (by simp) _ _ _) (cls_one _) hs1 hs2 (Nat.le_trans Hb2.out (by simp)) ?_
                       intro A8 c8 w8 r1 r2 r3 r4 r5
                       have R1 := Lib.hid r1
                       have R2 := Lib.hid r2
                       clear r1 r2 r3 r4 r5)
          have HX := Lib.hid (show w8.ownsRow b2 23 3 (.slice A8 (j + 1) c8) (j + 1) (cls (mergeL (bl.take (j + 1)) l)) by rw [HM.out, cls_append]; exact R1.out)
          have HL := Lib.hid ((HL.out.alloc Hb2.out (.cells #[.bool u2, .int .i64 m2, .string s2] 23)).below R2.out)
          have HR := Lib.hid ((HR.out.alloc Hb2.out (.cells #[.bool u2, .int .i64 m2, .string s2] 23)).below R2.out)
          have HB := Lib.hid ((HB.out.alloc HB.out.size (.cells #[.bool u2, .int .i64 m2, .string s2] 23)).trans (R2.out.mono Hwb.out))
          have Hb2 := Lib.hid (show b2 ≤ w8.heap.size from Nat.le_trans (Nat.le_trans Hb2.out (by simp)) R2.out.size)
          go_roundw
          case rel => exact ⟨j + 1, A8, c8, by omega, rfl, by first | (rw [Hct.out]; done) | (rw [Hct.out]; go_num), by go_num, HX, HL, HR, Hb2, HB⟩
          case measure => simp [intOf]; omega
        ·obtain rfl : j = N := by omega
         have Hml := Lib.hid (show (mergeL bl l).length = bl.length from mergeL_len bl l (by rw [Hlen.out]; exact Nat.le_refl _))
         have hsm := Hsm.out
         obtain ⟨q, hq⟩ : ∃ q, q = sz + s := ⟨_, rfl⟩
         have hqm : q ≤ m := by omega
         have hmm : m ≤ 9223372036854775807 := by omega
         have hsum : (sz : Int) + (s : Int) = (q : Int) := by omega
         have Hq := Lib.hid hq
         clear hq hsm
         go_wp2
         go_ret3
         rw [HE.out]
         have ho := HO.out
         rw [List.take_of_length_le (by have := HbN.out; omega)] at ho
         obtain ⟨p1, p2⟩ := own_caps ho
         have hlj : (mergeL bl l).length = j := by rw [Hml.out, HbN.out]
         have hq2 := Hq.out
         subst hq2
         exact ⟨HB.out, by rw [hlj]; exact hN2, A9, c9, by rw [hlj]; rfl, by rw [hlj]; exact p1, p2, by rw [hlj]; exact own_mono ho Hwb.out⟩
     ·have HE := Lib.hid (show getC k true xs (N : Int) = .error er by rw [Hgc.out, if_neg he])
      have hne : ((er : Int) == 0) = false := by simp; omega
      have hne2 : ((er : Int) != 0) = true := by simp; omega
      clear q1 q2 q3 q4 hlen0 hsz0
      go_wp2
      go_ret3
      rw [HE.out]
      exact ⟨HB.out, rfl, he⟩
end Go.Proofs.YtjpjalmilfgckaaGreatDoor
namespace Go.Proofs.YtjpjalmilfgckaaGreatDoor
open Go.RowKit Go.Deep Go.ChangeShapes Go.WideShapes Go.Shelf Go.Lib
theorem cells_of {H : Type} {enc : TypeId × Value → H} {w : World} {held : Bool} {a : Option Addr} {len cap : Nat} {d : DataW H} {p : List MemPlace} (h : DataW.Trod enc Tryz.prog w 0 (fun _ => true) held 24 (.slice a len cap) d p) :
  ∃ xs : List Cl, Reads w w.heap.size 3 a len (cls xs) ∧ len ≤ cap ∧ cap ≤ maxLen ∧ ClOk xs := by
 haveI : Inhabited Cl := ⟨(false, 0, ⟨#[]⟩)⟩
 refine structs_of 3 (fun c : Cl => [.bool c.1, .int .i64 c.2.1, .string c.2.2]) (fun c => -9223372036854775808 ≤ c.2.1 ∧ c.2.1 ≤ 9223372036854775807 ∧ c.2.2.size ≤ maxLen) (by decide) (fun _ => rfl)
  Tryz.underlying24 (by kernel_rfl) (fun n cs y hy => ?_) h
 obtain ⟨m, hl, hc⟩ := struct_cells Tryz.underlying23 (by kernel_rfl) (by kernel_rfl) hy
 match cs, hl with
 | [v0, v1, v2], _ =>
  obtain ⟨y0, g0⟩ := hc 0 _ _ rfl rfl
  obtain ⟨y1, g1⟩ := hc 1 _ _ rfl rfl
  obtain ⟨y2, g2⟩ := hc 2 _ _ rfl rfl
  obtain ⟨u, e0, -⟩ := DataW.trod_bool Tryz.underlying4 g0
  obtain ⟨k, e1, _, b1⟩ := DataW.trod_int Tryz.underlying2 g1
  obtain ⟨s, e2, _, b2⟩ := DataW.trod_string Tryz.underlying9 g2
  cases e0
  cases e1
  cases e2
  exact ⟨(u, k, s), rfl, (bounds_i64 b1).1, (bounds_i64 b1).2, b2⟩
theorem type_of {H : Type} {enc : TypeId × Value → H} {w : World} {held : Bool} {cs : Array Value} {d : DataW H} {p : List MemPlace} (h : DataW.Trod enc Tryz.prog w 0 (fun _ => true) held 43 (.agg cs) d p) :
  ∃ (k : Int) (nl : Bool), cs = #[.int .i64 k, .bool nl] ∧ -9223372036854775808 ≤ k ∧ k ≤ 9223372036854775807 := by
 obtain ⟨fuel, hf⟩ := h
 obtain ⟨m, hl, hc⟩ := struct_cells Tryz.underlying43 (by kernel_rfl) (by kernel_rfl) hf
 obtain ⟨cl, hcl⟩ : ∃ cl, cl = cs.toList := ⟨_, rfl⟩
 have hcs : cs = cl.toArray := by rw [hcl]
 have hcells : (Value.agg cs).cells = cs := rfl
 rw [hcells, ← hcl] at hl hc
 match cl, hl with
 | [v0, v1], _ =>
  obtain ⟨y0, g0⟩ := hc 0 _ _ rfl rfl
  obtain ⟨y1, g1⟩ := hc 1 _ _ rfl rfl
  obtain ⟨k, e0, _, b0⟩ := DataW.trod_int Tryz.underlying3 g0
  obtain ⟨u, e1, -⟩ := DataW.trod_bool Tryz.underlying4 g1
  cases e0
  cases e1
  exact ⟨k, u, hcs, (bounds_i64 b0).1, (bounds_i64 b0).2⟩
theorem first_eq : Pinned.utf8First = firstData := by kernel_rfl
theorem tabs_of {w : World} (h1 : VarReads Tryz.prog w "unicode/utf8.first" firstData) (h2 : VarReads Tryz.prog w "unicode/utf8.acceptRanges" acceptData) : Tabs w :=
 utf8Tabs_of_readsT (U8Types.of196 Tryz.laysValid) ⟨by kernel_rfl, by kernel_rfl, by kernel_rfl, by kernel_rfl, by kernel_rfl, by kernel_rfl, by kernel_rfl⟩ h1 h2
end Go.Proofs.YtjpjalmilfgckaaGreatDoor
namespace Go.Proofs.YtjpjalmilfgckaaGreatDoor
open Go.RowKit
theorem putO_ok {k : Int} {nl : Bool} {l : List Cl} (xs : List UInt8) (h : putE k nl l = 0) : putO k nl l xs = putB k nl l xs := by unfold putO; rw [if_pos h]
theorem putE_ok {k : Int} {nl : Bool} {l : List Cl} (hk : mayK k = true) (ha : allC k nl l = true) : putE k nl l = 0 := by simp [putE, hk, ha]
end Go.Proofs.YtjpjalmilfgckaaGreatDoor
