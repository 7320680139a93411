/- Part 24 of the walks, merged: each text under its own heading. Conditions: none of its own; each lemma states what it asks. -/
import Derived.Test.YtnkgchmkmhdcaaaGreatDoorGk11
import Derived.Test.YtnkgchmkmhdcaaaGreatDoorGk14
import Derived.Test.YtnkgchmkmhdcaaaGreatDoorGk15
import Derived.Test.YtnkgchmkmhdcaaaGreatDoorGk16
import Derived.Test.YtnkgchmkmhdcaaaGreatDoorGk17
import Derived.Test.YtnkgchmkmhdcaaaGreatDoorGk18
import Derived.Test.YtnkgchmkmhdcaaaGreatDoorGk19
import Derived.Test.YtnkgchmkmhdcaaaGreatDoorGk21
import Derived.Test.YtnkgchmkmhdcaaaGreatDoorGk23
import Derived.Lib.LaidU8T
import Derived.OpenShut
set_option linter.unusedVariables false
set_option linter.unusedSimpArgs false
namespace Go.Proofs.YtnkgchmkmhdcaaaGreatDoor
open Go.RowKit Go.Shelf
def matchV (cs : List Co) (b : Ba) (xs : List UInt8) : Int := if batE cs b = 0 then (if encA cs b = xs then 0 else 4) else batE cs b
theorem match_no {cs : List Co} {b : Ba} {xs : List UInt8} (h : ¬ (lcp (encA cs b) xs < xs.length ∨ (encA cs b).length ≠ xs.length)) : encA cs b = xs := by
 have h2 := lcp_le2 (encA cs b) xs
 exact lcp_full (by omega) (by omega)
theorem match_yes {cs : List Co} {b : Ba} {xs : List UInt8} (h : lcp (encA cs b) xs < xs.length ∨ (encA cs b).length ≠ xs.length) : encA cs b ≠ xs := by
 intro e
 rw [e, lcp_self] at h
 omega
set_option maxRecDepth 100000 in
set_option maxHeartbeats 4000000 in
theorem gmatch_any (A : Option Addr) (n c : Nat) (cs : List Co) (v s : Int) (I : Option Addr) (m d : Nat) (li : List It) (X : Option Addr) (xn xc : Nat) (xs : List UInt8) (w : World) (hr : Reads w w.heap.size 7 A n (cos cs)) (hn : n ≤ maxLen) (hi : ItemsAt w w.heap.size I m li) (hm : m ≤ maxLen) (hs : s ≤ 9223372036854775807) (hok : ItOk li)
  (hx : Reads w w.heap.size 1 X xn (u8s xs)) (hxn : xn ≤ maxLen) (hT : Tab2 w.heap.size w) :
  Calls Tryz.prog 65 #[.slice A n c, .agg #[.int .i64 v, .int .i64 s, .slice I m d], .slice X xn xc] w fun e w' => e = .returned (.int .i64 (matchV cs (v, s, li) xs)) ∧ Below w.heap.size w w' := by
 have Hr := Lib.hid hr
 have Hi := Lib.hid hi
 have HT := Lib.hid hT
 have Hok := Lib.hid hok
 have Hx := Lib.hid hx
 have hxl : xs.length = xn := by have := hx.1; simpa [u8s] using this
 have HP := Lib.hid (Blk.new w 30 #[.int .i64 v, .int .i64 s, .slice I m d])
 have HB := Lib.hid (bal (Below.refl w.heap.size w) (.cells #[.int .i64 v, .int .i64 s, .slice I m d] 30))
 clear hr hi hT hok hx
 go_enter Tryz.func65, Tryz.ntmps65
 go_wp2_with fail
 with_reducible refine (gwhere_any A n c cs v s I m d li X xn xc xs _ (Hr.out.on HB.out) hn (Hi.out.on HB.out) hm hs Hok.out (Hx.out.on HB.out) hxn (HT.out.on HB.out)).mono ?_
 rintro e w1 ⟨rfl, hb1⟩
 have HP1 := Lib.hid (HP.out.on hb1)
 have HB1 := Lib.hid (bon HB.out hb1)
 have p0 := HP1.out.cell 0
 have p1 := HP1.out.cell 1
 have p2 := HP1.out.cell 2
 clear hb1 HP HB
 by_cases hE : batE cs (v, s, li) = 0
 ·have hwv : whereV cs (v, s, li) xs = ((lcp (encA cs (v, s, li)) xs : Nat) : Int) := by unfold whereV; rw [if_pos hE]
  have hsv : sizeV cs (v, s, li) = ((encA cs (v, s, li)).length : Int) := by unfold sizeV; rw [if_pos hE]
  have hmv : matchV cs (v, s, li) xs = if encA cs (v, s, li) = xs then 0 else 4 := by unfold matchV; rw [if_pos hE]
  obtain ⟨a, ha⟩ : ∃ a, lcp (encA cs (v, s, li)) xs = a := ⟨_, rfl⟩
  obtain ⟨b, hb⟩ : ∃ b, (encA cs (v, s, li)).length = b := ⟨_, rfl⟩
  have hyes := match_yes (cs := cs) (b := (v, s, li)) (xs := xs)
  have hno := match_no (cs := cs) (b := (v, s, li)) (xs := xs)
  rw [ha, hb, hxl] at hyes hno
  rw [ha] at hwv
  rw [hb] at hsv
  have Hsv := Lib.hid hsv
  have Hmv := Lib.hid hmv
  have HE0 := Lib.hid hE
  rw [hE, hwv]
  clear hE hwv hsv hmv ha hb
  go_wp2_with fail
  refine (gsize_any A n c cs v s I m d li _ (Hr.out.on HB1.out) hn (Hi.out.on HB1.out) hm hs Hok.out (HT.out.on HB1.out)).mono ?_
  rintro e w2 ⟨rfl, hb2⟩
  have HB2 := Lib.hid (bon HB1.out hb2)
  rw [Hsv.out, HE0.out]
  clear p0 p1 p2 hb2 HB1 HP1
  by_cases hab : a < xn ∨ b ≠ xn
  ·have HY := Lib.hid (hyes hab)
   clear hyes hno
   by_cases h1 : a < xn
   ·have e1 : decide ((a : Int) < (xn : Int)) = true := by simp; omega
    clear hab
    go_wp2
    go_ret
    exact ⟨by rw [Hmv.out, if_neg HY.out]; rfl, HB2.out⟩
   ·have e1 : decide ((a : Int) < (xn : Int)) = false := by simp; omega
    have e2 : ((b : Int) != (xn : Int)) = true := by simp; omega
    have h2 : xn ≤ a := by omega
    have h3 : ¬ (b = xn) := by omega
    clear hab h1
    go_wp2
    go_ret
    exact ⟨by rw [Hmv.out, if_neg HY.out]; rfl, HB2.out⟩
  ·have HY := Lib.hid (hno hab)
   have e1 : decide ((a : Int) < (xn : Int)) = false := by simp; omega
   have e2 : ((b : Int) != (xn : Int)) = false := by simp; omega
   have h2 : xn ≤ a := by omega
   have h3 : b = xn := by omega
   have Hbx := Lib.hid h3
   clear hyes hno hab h3
   go_wp2
   go_ret
   exact ⟨by rw [Hmv.out, if_pos HY.out]; rfl, HB2.out⟩
 ·have hE2 : (batE cs (v, s, li) != 0) = true := by simpa using hE
  have Hmv := Lib.hid (show matchV cs (v, s, li) xs = batE cs (v, s, li) by unfold matchV; rw [if_neg hE])
  obtain ⟨E, hEE⟩ : ∃ E, batE cs (v, s, li) = E := ⟨_, rfl⟩
  rw [hEE] at hE2 ⊢
  have HEE := Lib.hid hEE
  generalize whereV cs (v, s, li) xs = wv
  clear hE hEE
  go_wp2
  go_ret
  exact ⟨by rw [Hmv.out, HEE.out]; rfl, HB1.out⟩
end Go.Proofs.YtnkgchmkmhdcaaaGreatDoor
namespace Go.Proofs.YtnkgchmkmhdcaaaGreatDoor
open Go.RowKit
def cutTo (r : List Cl) (k : Nat) : List Cl := (r.take k).map cutc
theorem cutTo_succ {r : List Cl} {k : Nat} {c : Cl} (h : r[k]? = some c) : cutTo r (k + 1) = cutTo r k ++ [cutc c] := by
 unfold cutTo
 rw [List.take_add_one, h, List.map_append]
 rfl
theorem cutTo_all {r : List Cl} {k : Nat} (h : k = min r.length 40) : cutTo r k = cutr r := by
 unfold cutTo cutr
 congr 1
 rcases Nat.lt_or_ge r.length 40 with h1 | h1
 ·rw [List.take_of_length_le (by omega), List.take_of_length_le (by omega)]
 ·rw [show k = 40 by omega]
def cutI (l : List It) (i : Nat) : List It := (l.take i).map cuti
theorem cutI_succ {l : List It} {i : Nat} {it : It} (h : l[i]? = some it) : cutI l (i + 1) = cutI l i ++ [cuti it] := by
 unfold cutI
 rw [List.take_add_one, h, List.map_append]
 rfl
theorem cutI_all {l : List It} {i : Nat} (h : i = min l.length 30) : cutI l i = cutl l := by
 unfold cutI cutl
 congr 1
 rcases Nat.lt_or_ge l.length 30 with h1 | h1
 ·rw [List.take_of_length_le (by omega), List.take_of_length_le (by omega)]
 ·rw [show i = 30 by omega]
end Go.Proofs.YtnkgchmkmhdcaaaGreatDoor
namespace Go.Proofs.YtnkgchmkmhdcaaaGreatDoor
open Go.RowKit
theorem Blk.readsN {w : World} {g : Nat} {t : TypeId} {cs : Array Value} (h : Blk w g t cs) (size n : Nat) (xs : List Value) (hx : cs.toList = xs) (hn : xs.length = n * size) : Reads w w.heap.size size (some ⟨g, 0, none⟩) n xs := by
 refine ⟨hn, fun _ => ⟨_, rfl, h.lt, fun j u hu => ?_⟩⟩
 have hadd : (⟨g, 0, none⟩ : Addr).add j = ⟨g, j, none⟩ := by unfold Addr.add; split <;> simp_all
 rw [hadd, h.cell]
 rw [← hx] at hu
 simpa using hu
theorem items_one {w : World} {g : Nat} {A : Option Addr} {n c : Nat} {r : List Cl} {x : Int} (hb : Blk w g 26 #[.slice A n c, .int .i64 x]) (hr : Reads w w.heap.size 3 A n (cls r)) (hn : n ≤ c) (hc : c ≤ maxLen) :
  ItemsAt w w.heap.size (some ⟨g, 0, none⟩) 1 [(r, x)] :=
 ⟨[(A, n, c)], hb.readsN 2 1 _ rfl rfl, RowsAt.nil.snoc (h := (A, n, c)) (it := (r, x)) hr hn hc⟩
def rowW : List Cl := [(false, 1, ⟨#[]⟩), (false, 0, ⟨#[97]⟩)]
def row2W : List Cl := [(false, -2, ⟨#[]⟩), (false, 0, ⟨#[97]⟩)]
def itW : List It := [(rowW, 1), (row2W, -1)]
def hdW : List UInt8 := [77, 83, 1, 3, 172, 2, 2, 2, 3, 1, 1, 97, 0, 0, 2, 1]
def xW : List UInt8 := [77, 83, 1, 3, 172, 2, 2, 2, 3, 1, 1, 97, 0, 0, 2, 1, 119, 82, 65, 129]
theorem okB_it (l : List It) (h : (l.all fun it => okB it.1 && decide (-9223372036854775808 ≤ it.2) && decide (it.2 ≤ 9223372036854775807)) = true) : ItOk l := by
 intro it hit
 have := List.all_eq_true.1 h it hit
 simp only [Bool.and_eq_true, decide_eq_true_eq] at this
 exact ⟨ok_of _ this.1.1, this.1.2, this.2⟩
theorem baOk_of {v s : Int} {l : List It} (hs : s ≤ 9223372036854775807) (h : ItOk l) : BaOk (v, s, l) := ⟨hs, fun it hit => (h it hit).2⟩
structure WkB (w : World) (A : Option Addr) (c h : Nat) (wc : World) : Prop where
 below : Below w.heap.size w wc
 items : ItemsAt wc wc.heap.size (some ⟨w.heap.size + 2, 0, none⟩) 2 itW
 blk : Blk wc (w.heap.size + 3) 30 #[.int .i64 3, .int .i64 300, .slice (some ⟨w.heap.size + 2, 0, none⟩) 2 2]
 its_ : Blk wc (w.heap.size + 2) 26 #[.slice (some ⟨w.heap.size, 0, none⟩) 2 2, .int .i64 1, .slice (some ⟨w.heap.size + 1, 0, none⟩) 2 2, .int .i64 (-1)]
 row : Reads wc wc.heap.size 3 (some ⟨w.heap.size, 0, none⟩) 2 (cls rowW)
 x : Reads wc wc.heap.size 1 A 20 (u8s xW)
 cap : 20 ≤ c ∧ c ≤ maxLen
 head : Reads wc wc.heap.size 1 (some ⟨h, 0, none⟩) 16 (u8s hdW)
 tab : Tab2 wc.heap.size wc
theorem WkB.on {w wc w' : World} {A : Option Addr} {c h : Nat} (H : WkB w A c h wc) (hb : Below wc.heap.size wc w') : WkB w A c h w' :=
 ⟨bon H.below hb, H.items.on hb, H.blk.on hb, H.its_.on hb, H.row.on hb, H.x.on hb, H.cap, H.head.on hb, H.tab.on hb⟩
theorem WkB.al {w wc : World} {A : Option Addr} {c h : Nat} (H : WkB w A c h wc) (o : Obj) : WkB w A c h (wc.alloc o) := H.on (bal (Below.refl _ _) o)
end Go.Proofs.YtnkgchmkmhdcaaaGreatDoor
namespace Go.Proofs.YtnkgchmkmhdcaaaGreatDoor
open Go.RowKit
def rowG : List Cl := [(true, 0, ⟨#[]⟩), (false, 0, ⟨#[98]⟩)]
def row2G : List Cl := [(false, 1, ⟨#[]⟩), (false, 0, ⟨#[98]⟩)]
def itG : List It := [(rowG, 1), (row2G, 1)]
def hdG : List UInt8 := [77, 83, 1, 0, 0, 2, 2, 1, 1, 1, 98, 0, 0, 2, 2]
def xG : List UInt8 := hdG ++ sumB (crcS hdG)
theorem xG_len : xG.length = 19 := by kernel_rfl
theorem xG_head : xG.take 15 = hdG := by kernel_rfl
theorem batG : batE twoG (0, 0, itG) = 0 := by kernel_rfl
theorem batG0 : batE twoG (0, 0, []) = 0 := by kernel_rfl
theorem xG_enc : encA twoG (0, 0, itG) = xG := by kernel_rfl
theorem sizeG : sizeV twoG (0, 0, itG) = 19 := by kernel_rfl
theorem sizeG0 : sizeV twoG (0, 0, []) = 11 := by kernel_rfl
theorem whereG0 : whereV twoG (0, 0, itG) [] = 0 := by kernel_rfl
theorem whereG1 : whereV twoG (0, 0, itG) [77, 83, 1, 0, 0, 2, 3] = 6 := by kernel_rfl
theorem whereG2 : whereV twoG (0, 0, itG) xG = 19 := by kernel_rfl
theorem matchG0 : matchV twoG (0, 0, itG) xG = 0 := by kernel_rfl
theorem matchG1 : matchV twoG (0, 0, itG) (xG ++ [0]) = 4 := by kernel_rfl
theorem matchG2 : matchV twoG (0, 0, [(rowG, 0)]) xG = 172 := by kernel_rfl
theorem itG_ok : ItOk itG := okB_it _ (by kernel_rfl)
theorem itH_ok : ItOk [(rowG, 0)] := okB_it _ (by kernel_rfl)
structure WkG (w wc : World) : Prop where
 below : Below w.heap.size w wc
 items : ItemsAt wc wc.heap.size (some ⟨w.heap.size + 2, 0, none⟩) 2 itG
 blk : Blk wc (w.heap.size + 3) 30 #[.int .i64 0, .int .i64 0, .slice (some ⟨w.heap.size + 2, 0, none⟩) 2 2]
 its_ : Blk wc (w.heap.size + 2) 26 #[.slice (some ⟨w.heap.size, 0, none⟩) 2 2, .int .i64 1, .slice (some ⟨w.heap.size + 1, 0, none⟩) 2 2, .int .i64 1]
 row : Reads wc wc.heap.size 3 (some ⟨w.heap.size, 0, none⟩) 2 (cls rowG)
 tab : Tab2 wc.heap.size wc
theorem WkG.on {w wc w' : World} (H : WkG w wc) (hb : Below wc.heap.size wc w') : WkG w w' :=
 ⟨bon H.below hb, H.items.on hb, H.blk.on hb, H.its_.on hb, H.row.on hb, H.tab.on hb⟩
theorem WkG.al {w wc : World} (H : WkG w wc) (o : Obj) : WkG w (wc.alloc o) := H.on (bal (Below.refl _ _) o)
theorem WkG.c0 {w wc : World} (H : WkG w wc) : ∀ w', Below wc.heap.size wc w' → w'.cell? ⟨w.heap.size + 3, 0, none⟩ = some (.int .i64 0) := fun w' h => (H.on h).blk.cell 0
theorem WkG.c1 {w wc : World} (H : WkG w wc) : ∀ w', Below wc.heap.size wc w' → w'.cell? ⟨w.heap.size + 3, 1, none⟩ = some (.int .i64 0) := fun w' h => (H.on h).blk.cell 1
theorem WkG.c2 {w wc : World} (H : WkG w wc) : ∀ w', Below wc.heap.size wc w' → w'.cell? ⟨w.heap.size + 3, 2, none⟩ = some (.slice (some ⟨w.heap.size + 2, 0, none⟩) 2 2) := fun w' h => (H.on h).blk.cell 2
theorem WkG.i0 {w wc : World} (H : WkG w wc) : ∀ w', Below wc.heap.size wc w' → w'.cell? ⟨w.heap.size + 2, 0, none⟩ = some (.slice (some ⟨w.heap.size, 0, none⟩) 2 2) := fun w' h => (H.on h).its_.cell 0
theorem gk_mem (w : World) (hT : Tab2 w.heap.size w) : ∀ W, W = ((((w.alloc (.cells #[.bool true, .int .i64 0, .string ⟨#[]⟩, .bool false, .int .i64 0, .string ⟨#[98]⟩] 23)).alloc (.cells #[.bool false, .int .i64 1, .string ⟨#[]⟩, .bool false, .int .i64 0, .string ⟨#[98]⟩] 23)).alloc (.cells #[.slice (some ⟨w.heap.size, 0, none⟩) 2 2, .int .i64 1, .slice (some ⟨w.heap.size + 1, 0, none⟩) 2 2, .int .i64 1] 26)).alloc (.cells #[.int .i64 0, .int .i64 0, .slice (some ⟨w.heap.size + 2, 0, none⟩) 2 2] 30)) → WkG w W := by
 intro W hW
 obtain ⟨W1, h1⟩ : ∃ W1, W1 = (w.alloc (.cells #[.bool true, .int .i64 0, .string ⟨#[]⟩, .bool false, .int .i64 0, .string ⟨#[98]⟩] 23)) := ⟨_, rfl⟩
 obtain ⟨W2, h2⟩ : ∃ W2, W2 = W1.alloc (.cells #[.bool false, .int .i64 1, .string ⟨#[]⟩, .bool false, .int .i64 0, .string ⟨#[98]⟩] 23) := ⟨_, rfl⟩
 obtain ⟨W3, h3⟩ : ∃ W3, W3 = W2.alloc (.cells #[.slice (some ⟨w.heap.size, 0, none⟩) 2 2, .int .i64 1, .slice (some ⟨w.heap.size + 1, 0, none⟩) 2 2, .int .i64 1] 26) := ⟨_, rfl⟩
 rw [← h1, ← h2, ← h3] at hW
 have s1 : W1.heap.size = w.heap.size + 1 := by rw [h1]; simp
 have s2 : W2.heap.size = w.heap.size + 2 := by rw [h2]; simp [s1]
 have s3 : W3.heap.size = w.heap.size + 3 := by rw [h3]; simp [s2]
 have B1 : Blk W1 w.heap.size 23 #[.bool true, .int .i64 0, .string ⟨#[]⟩, .bool false, .int .i64 0, .string ⟨#[98]⟩] := by rw [h1]; exact Blk.new _ _ _
 have B2 : Blk W2 (w.heap.size + 1) 23 #[.bool false, .int .i64 1, .string ⟨#[]⟩, .bool false, .int .i64 0, .string ⟨#[98]⟩] := by rw [h2, ← s1]; exact Blk.new _ _ _
 have B3 : Blk W3 (w.heap.size + 2) 26 #[.slice (some ⟨w.heap.size, 0, none⟩) 2 2, .int .i64 1, .slice (some ⟨w.heap.size + 1, 0, none⟩) 2 2, .int .i64 1] := by rw [h3, ← s2]; exact Blk.new _ _ _
 have B4 : Blk W (w.heap.size + 3) 30 #[.int .i64 0, .int .i64 0, .slice (some ⟨w.heap.size + 2, 0, none⟩) 2 2] := by rw [hW, ← s3]; exact Blk.new _ _ _
 have b3 : Below W3.heap.size W3 W := by rw [hW]; exact bal (Below.refl _ _) _
 have b2 : Below W2.heap.size W2 W := bon (by rw [h3]; exact bal (Below.refl _ _) _) b3
 have b1 : Below W1.heap.size W1 W := bon (by rw [h2]; exact bal (Below.refl _ _) _) b2
 have b0 : Below w.heap.size w W := bon (by rw [h1]; exact bal (Below.refl _ _) _) b1
 have r1 := (B1.on b1).readsN 3 2 (cls rowG) rfl rfl
 have r2 := (B2.on b2).readsN 3 2 (cls row2G) rfl rfl
 refine ⟨b0, ⟨[(some ⟨w.heap.size, 0, none⟩, 2, 2), (some ⟨w.heap.size + 1, 0, none⟩, 2, 2)], (B3.on b3).readsN 2 2 _ rfl rfl, ?_⟩, B4, B3.on b3, r1, hT.on b0⟩
 exact (RowsAt.nil.snoc (h := (some ⟨w.heap.size, 0, none⟩, 2, 2)) (it := (rowG, 1)) r1 (Nat.le_refl 2) (show 2 ≤ maxLen by decide)).snoc (h := (some ⟨w.heap.size + 1, 0, none⟩, 2, 2)) (it := (row2G, 1)) r2 (Nat.le_refl 2) (show 2 ≤ maxLen by decide)
end Go.Proofs.YtnkgchmkmhdcaaaGreatDoor
namespace Go.Proofs.YtnkgchmkmhdcaaaGreatDoor
open Go.RowKit
set_option maxRecDepth 100000 in
set_option maxHeartbeats 4000000 in
theorem cut18_any (v s : Int) (I : Option Addr) (m d : Nat) (l : List It) (w : World) (hi : ItemsAt w w.heap.size I m l) (hm : m ≤ maxLen) (hok : ItOk l) :
  Calls Tryz.prog 59 #[.agg #[.int .i64 v, .int .i64 s, .slice I m d]] w fun e w' => ∃ A k c, e = .returned (.agg #[.int .i64 v, .int .i64 s, .slice A k c]) ∧ ItemsOwn w' w.heap.size A k c (cutl l) ∧ Below w.heap.size w w' := by
 obtain ⟨j0, hj0, hk0, hj1, hk2⟩ := info_parts cell_info
 obtain ⟨i0, hi0, hl0, hi1, hl2⟩ := info_parts item_info
 have Hi := Lib.hid hi
 have Hok := Lib.hid hok
 have hm63 : m ≤ 9223372036854775807 := by simp only [maxLen] at hm; omega
 have HB := Lib.hid (bal (bal (bal (Below.refl w.heap.size w) (.cells #[.int .i64 v, .int .i64 s, .slice I m d] 30)) (.cells #[.int .i64 0, .int .i64 0, .slice none 0 0] 30)) (.cells #[.int .i64 v, .int .i64 s, .slice none 0 0] 30))
 have B1 := Lib.hid (((Blk.new w 30 #[.int .i64 v, .int .i64 s, .slice I m d]).alloc (.cells #[.int .i64 0, .int .i64 0, .slice none 0 0] 30)).alloc (.cells #[.int .i64 v, .int .i64 s, .slice none 0 0] 30))
 have B2 := Lib.hid ((Blk.new (w.alloc (.cells #[.int .i64 v, .int .i64 s, .slice I m d] 30)) 30 #[.int .i64 0, .int .i64 0, .slice none 0 0]).alloc (.cells #[.int .i64 v, .int .i64 s, .slice none 0 0] 30))
 have B3 := Lib.hid (Blk.new ((w.alloc (.cells #[.int .i64 v, .int .i64 s, .slice I m d] 30)).alloc (.cells #[.int .i64 0, .int .i64 0, .slice none 0 0] 30)) 30 #[.int .i64 v, .int .i64 s, .slice none 0 0])
 rw [show (w.alloc (.cells #[.int .i64 v, .int .i64 s, .slice I m d] 30)).heap.size = w.heap.size + 1 by simp] at B2
 rw [show ((w.alloc (.cells #[.int .i64 v, .int .i64 s, .slice I m d] 30)).alloc (.cells #[.int .i64 0, .int .i64 0, .slice none 0 0] 30)).heap.size = w.heap.size + 2 by simp] at B3
 clear hi hm hok
 go_enter Tryz.func59, Tryz.ntmps59
 go_wp2
 rw [show w.heap.size + 1 + 1 = w.heap.size + 2 from rfl]
 go_loopw [4, 5] (fun u ix wr => ∃ (i : Nat) (A4 : Option Addr) (c4 : Nat), i ≤ m ∧ i ≤ 30 ∧ u = .slice A4 i c4 ∧ ix = .int .i64 (i : Int) ∧ Hid (ItemsOwn wr w.heap.size A4 i c4 (cutI l i)) ∧ Hid (Blk wr w.heap.size 30 #[.int .i64 v, .int .i64 s, .slice I m d]) ∧ Hid (Blk wr (w.heap.size + 1) 30 #[.int .i64 0, .int .i64 0, .slice none 0 0]) ∧ Hid (Blk wr (w.heap.size + 2) 30 #[.int .i64 v, .int .i64 s, .slice none 0 0]) ∧ Hid (Below w.heap.size w wr)) (fun _ ix _ => m - (intOf ix).toNat)
 case atStart => exact ⟨0, none, 0, Nat.zero_le _, by omega, rfl, rfl, Lib.hid ItemsOwn.nil, B1, B2, B3, HB⟩
 case round =>
  clear HB B1 B2 B3
  obtain ⟨i, A4, c4, hile, hi30, rfl, rfl, HIt, B1, B2, B3, HB⟩ := hrel
  have c2 := B1.out.cell 2
  by_cases hlt : i < m ∧ i < 30
  ·obtain ⟨hlt1, hlt2⟩ := hlt
   have d1 : decide ((i : Int) < (m : Int)) = true := by simp; omega
   have d2 : decide ((i : Int) < 30) = true := by simp; omega
   have hii : (i : Int) < (m : Int) := by omega
   have hi1' : i + 1 ≤ m := hlt1
   have hi2' : i + 1 ≤ 30 := hlt2
   obtain ⟨ad, A', c', ⟨r, wt⟩, rfl, hbk, hit, h0, h1, hrow, hc1, hc2⟩ := (Hi.out.below HB.out).at_ hlt1
   simp only at h0 h1 hrow hc1
   have HR0 := Lib.hid (show ∀ w', Below wr.heap.size wr w' → w'.cell? (ad.add (i * 2)) = some (.slice A' r.length c') from fun w' h => (h.cell (World.block_lt_of_cell? _ _ h0)).trans h0)
   have HW := Lib.hid (show ∀ w', Below wr.heap.size wr w' → w'.cell? ⟨(ad.add (i * 2)).block, (ad.add (i * 2)).off + 1, none⟩ = some (.int .i64 wt) from fun w' h => (h.cell (World.block_lt_of_cell? _ _ h1)).trans h1)
   have Hrow := Lib.hid (hrow.more HB.out.size)
   have Hit := Lib.hid hit
   have hrl63 : r.length ≤ 9223372036854775807 := by simp only [maxLen] at hc2; omega
   have Hrk := Lib.hid (Hok.out _ (List.mem_of_getElem? hit)).1
   simp only at Hrk
   clear hit hrow hc1 hc2 h0 h1 hbk
   generalize hrl : r.length = rl at HR0 Hrow hrl63
   have Hrl := Lib.hid hrl
   clear hrl
   generalize wr = Wp at *
   go_wp2
   go_loopw [6, 7] (fun u jx WX => ∃ (k : Nat) (A10 : Option Addr) (c10 : Nat), k ≤ rl ∧ k ≤ 40 ∧ u = .slice A10 k c10 ∧ jx = .int .i64 (k : Int) ∧ Hid (WX.ownsRow Wp.heap.size 23 3 (.slice A10 k c10) k (cls (cutTo r k))) ∧ Hid (Below Wp.heap.size Wp WX)) (fun _ jx _ => rl - (intOf jx).toNat)
   case atStart => exact ⟨0, none, 0, Nat.zero_le _, by omega, rfl, rfl, Lib.hid (World.ownsRow_nil _ _ _ _), Lib.hid (Below.refl _ _)⟩
   case round =>
    clear c2
    obtain ⟨k, A10, c10, hk1, hk40, rfl, rfl, HO, HY⟩ := hrel
    have c2 := (B1.out.on HY.out).cell 2
    have h0 := HR0.out _ HY.out
    by_cases hkt : k < rl ∧ k < 40
    ·obtain ⟨hkt1, hkt2⟩ := hkt
     have d3 : decide ((k : Int) < (rl : Int)) = true := by simp; omega
     have d4 : decide ((k : Int) < 40) = true := by simp; omega
     have hki : (k : Int) < (rl : Int) := by omega
     have hk1' : k + 1 ≤ rl := hkt1
     have hk2' : k + 1 ≤ 40 := hkt2
     obtain ⟨ad3, u, x, sx, rfl, hbk3, hx, g0', g1', g2'⟩ := cls_at (Hrow.out.on HY.out) hkt1
     have hsz : sx.size ≤ 9223372036854775807 := by have := (Hrk.out _ (List.mem_of_getElem? hx)).2.2; simp only [maxLen] at this; omega
     obtain ⟨mn, hmn⟩ : ∃ mn : Nat, mn = min sx.size 300 := ⟨_, rfl⟩
     have hmi : min (sx.size : Int) 300 = (mn : Int) := by omega
     have hms : mn ≤ sx.size := by omega
     have Hs := Lib.hid (show cutTo r (k + 1) = cutTo r k ++ [(u, x, sx.extract 0 mn)] by rw [cutTo_succ hx, hmn]; rfl)
     have hs1 : k + 1 ≤ maxLen := by simp only [maxLen]; omega
     have hs2 : (k + 1) * 32 ≤ 70368744177664 := by omega
     clear hx hbk3 hmn
     go_wp2_with (at_builtin
                  refine wpList_append_any _ rfl (.tmp 57) (.tmp 59) 24 rfl Wp.heap.size 23 j0 (.agg #[.bool false, .int .i64 0, .string ⟨#[]⟩]) 3 32 Tryz.underlying24 hj0 hk0 hj1 hk2 rfl (by decide) A10 k c10 _ rfl (own_below HO.out (((Below.refl _ wr).alloc (Nat.le_refl _) (.cells #[.bool u, .int .i64 x, .string (sx.extract 0 mn)] 23)).alloc (by simp) (.cells #[.bool u, .int .i64 x, .string (sx.extract 0 mn)] 23))) (some ⟨_, 0, none⟩) 1 1 (cls [(u, x, sx.extract 0 mn)]) rfl (by exact reads_cellb _ _ (by simp) _ _ _) (cls_one _) hs1 hs2 (Nat.le_trans HY.out.size (by simp; omega)) ?_
                  intro A8 c8 w8 r1 r2 r3 r4 r5
                  rw [← cls_append, ← Hs.out] at r1
                  have R1 := Lib.hid r1
                  have R2 := Lib.hid r2
                  clear r1 r2 r3 r4 r5)
     have HY8 := Lib.hid (((HY.out.alloc HY.out.size (.cells #[.bool u, .int .i64 x, .string (sx.extract 0 mn)] 23)).alloc (Nat.le_trans HY.out.size (by simp)) (.cells #[.bool u, .int .i64 x, .string (sx.extract 0 mn)] 23)).trans R2.out)
     go_roundw
     case rel => exact ⟨k + 1, A8, c8, hk1', hk2', rfl, by go_num, R1, HY8⟩
     case measure => simp [intOf]; omega
    ·by_cases hkt1 : k < rl
     ·have d3 : decide ((k : Int) < (rl : Int)) = true := by simp; omega
      have d4 : decide ((k : Int) < 40) = false := by simp; omega
      have Hall := Lib.hid (cutTo_all (r := r) (k := k) (by rw [Hrl.out]; omega))
      have HLw := Lib.hid HY.out
      have HBw := Lib.hid (bon HB.out HY.out)
      have B1w := Lib.hid (B1.out.on HY.out)
      have B3w := Lib.hid (B3.out.on HY.out)
      obtain ⟨hs3, g1, g2⟩ := HIt.out.below HY.out
      have G1 := Lib.hid (own_below g1 ((Below.refl wr.heap.size wr).alloc (Nat.le_refl _) (.cells #[.slice A10 k c10, .int .i64 wt] 26)))
      have G2 := Lib.hid (RowsOwn.below g2 ((Below.refl wr.heap.size wr).alloc (Nat.le_refl _) (.cells #[.slice A10 k c10, .int .i64 wt] 26)))
      have HOr := Lib.hid (own_below (own_mono HO.out HB.out.size) ((Below.refl wr.heap.size wr).alloc (Nat.le_refl _) (.cells #[.slice A10 k c10, .int .i64 wt] 26)))
      rw [Hall.out] at HOr
      have B1a := Lib.hid (B1w.out.alloc (.cells #[.slice A10 k c10, .int .i64 wt] 26))
      have B2a := Lib.hid ((B2.out.on HY.out).alloc (.cells #[.slice A10 k c10, .int .i64 wt] 26))
      have B3a := Lib.hid (B3w.out.alloc (.cells #[.slice A10 k c10, .int .i64 wt] 26))
      have HBa := Lib.hid (bal HBw.out (.cells #[.slice A10 k c10, .int .i64 wt] 26))
      have c2 := B1w.out.cell 2
      have hw := HW.out _ HY.out
      have hsa : i + 1 ≤ maxLen := by simp only [maxLen]; omega
      have hsb : (i + 1) * 32 ≤ 70368744177664 := by omega
      have hii : (i : Int) < (m : Int) := by omega
      clear g1 g2
      go_wp2_with (at_builtin
                   refine wpList_append_any _ rfl (.tmp 61) (.tmp 70) 27 rfl w.heap.size 26 i0 (.agg #[.slice none 0 0, .int .i64 0]) 2 32 Tryz.underlying27 hi0 hl0 hi1 hl2 rfl (by decide) A4 i c4 _ rfl G1.out (some ⟨_, 0, none⟩) 1 1 (itV (A10, k, c10) (cutr r, wt)) rfl (by exact reads_item _ _ rfl (A10, k, c10) (cutr r, wt)) (itV_one _ _) hsa hsb HBa.out.size ?_
                   intro A8 c8 w8 r1 r2 r3 r4 r5
                   have R1 := Lib.hid r1
                   have R2 := Lib.hid r2
                   have R3 := Lib.hid r3
                   clear r1 r2 r3 r4 r5)
      have B18 := Lib.hid (B1a.out.apart G1.out (by decide) R3.out)
      have B28 := Lib.hid (B2a.out.apart G1.out (by decide) R3.out)
      have B38 := Lib.hid (B3a.out.apart G1.out (by decide) R3.out)
      have HB8 := Lib.hid (HBa.out.trans R2.out)
      have HI8 := Lib.hid (items_app (hd := (A10, k, c10)) (it := (cutr r, wt)) G1.out G2.out HOr.out R3.out R1.out)
      have hcs := cutI_succ Hit.out
      rw [show cuti (r, wt) = (cutr r, wt) from rfl] at hcs
      rw [← hcs] at HI8
      clear hcs
      go_roundw
      case rel => exact ⟨i + 1, A8, c8, hi1', hi2', rfl, by go_num, HI8, B18, B28, B38, HB8⟩
      case measure => simp [intOf]; omega
     ·have d3 : decide ((k : Int) < (rl : Int)) = false := by simp; omega
      have Hall := Lib.hid (cutTo_all (r := r) (k := k) (by rw [Hrl.out]; omega))
      have HLw := Lib.hid HY.out
      have HBw := Lib.hid (bon HB.out HY.out)
      have B1w := Lib.hid (B1.out.on HY.out)
      have B3w := Lib.hid (B3.out.on HY.out)
      obtain ⟨hs3, g1, g2⟩ := HIt.out.below HY.out
      have G1 := Lib.hid (own_below g1 ((Below.refl wr.heap.size wr).alloc (Nat.le_refl _) (.cells #[.slice A10 k c10, .int .i64 wt] 26)))
      have G2 := Lib.hid (RowsOwn.below g2 ((Below.refl wr.heap.size wr).alloc (Nat.le_refl _) (.cells #[.slice A10 k c10, .int .i64 wt] 26)))
      have HOr := Lib.hid (own_below (own_mono HO.out HB.out.size) ((Below.refl wr.heap.size wr).alloc (Nat.le_refl _) (.cells #[.slice A10 k c10, .int .i64 wt] 26)))
      rw [Hall.out] at HOr
      have B1a := Lib.hid (B1w.out.alloc (.cells #[.slice A10 k c10, .int .i64 wt] 26))
      have B2a := Lib.hid ((B2.out.on HY.out).alloc (.cells #[.slice A10 k c10, .int .i64 wt] 26))
      have B3a := Lib.hid (B3w.out.alloc (.cells #[.slice A10 k c10, .int .i64 wt] 26))
      have HBa := Lib.hid (bal HBw.out (.cells #[.slice A10 k c10, .int .i64 wt] 26))
      have c2 := B1w.out.cell 2
      have hw := HW.out _ HY.out
      have hsa : i + 1 ≤ maxLen := by simp only [maxLen]; omega
      have hsb : (i + 1) * 32 ≤ 70368744177664 := by omega
      have hii : (i : Int) < (m : Int) := by omega
      clear g1 g2
      go_wp2_with (at_builtin
                   refine wpList_append_any _ rfl (.tmp 61) (.tmp 70) 27 rfl w.heap.size 26 i0 (.agg #[.slice none 0 0, .int .i64 0]) 2 32 Tryz.underlying27 hi0 hl0 hi1 hl2 rfl (by decide) A4 i c4 _ rfl G1.out (some ⟨_, 0, none⟩) 1 1 (itV (A10, k, c10) (cutr r, wt)) rfl (by exact reads_item _ _ rfl (A10, k, c10) (cutr r, wt)) (itV_one _ _) hsa hsb HBa.out.size ?_
                   intro A8 c8 w8 r1 r2 r3 r4 r5
                   have R1 := Lib.hid r1
                   have R2 := Lib.hid r2
                   have R3 := Lib.hid r3
                   clear r1 r2 r3 r4 r5)
      have B18 := Lib.hid (B1a.out.apart G1.out (by decide) R3.out)
      have B28 := Lib.hid (B2a.out.apart G1.out (by decide) R3.out)
      have B38 := Lib.hid (B3a.out.apart G1.out (by decide) R3.out)
      have HB8 := Lib.hid (HBa.out.trans R2.out)
      have HI8 := Lib.hid (items_app (hd := (A10, k, c10)) (it := (cutr r, wt)) G1.out G2.out HOr.out R3.out R1.out)
      have hcs := cutI_succ Hit.out
      rw [show cuti (r, wt) = (cutr r, wt) from rfl] at hcs
      rw [← hcs] at HI8
      clear hcs
      go_roundw
      case rel => exact ⟨i + 1, A8, c8, hi1', hi2', rfl, by go_num, HI8, B18, B28, B38, HB8⟩
      case measure => simp [intOf]; omega
  ·by_cases hlt1 : i < m
   ·have d1 : decide ((i : Int) < (m : Int)) = true := by simp; omega
    have d2 : decide ((i : Int) < 30) = false := by simp; omega
    have hcl := cutI_all (l := l) (i := i) (by rw [Hi.out.len]; omega)
    rw [hcl] at HIt
    clear hcl
    have p0 := B3.out.cell 0
    have p1 := B3.out.cell 1
    have p2 := B3.out.cell 2
    have q0 := B3.out.frozen 0
    have q1 := B3.out.frozen 1
    have q2 := B3.out.frozen 2
    have r0 := B2.out.cell 0
    have r1 := B2.out.cell 1
    have r2 := B2.out.cell 2
    have s0 := B2.out.frozen 0
    have s1 := B2.out.frozen 1
    have s2 := B2.out.frozen 2
    go_wp2
    have H3a := B3.out.set_ 2 (.slice A4 i c4)
    have H2a := (((B2.out.far (p := ⟨w.heap.size + 2, 2, none⟩) (by show w.heap.size + 1 ≠ w.heap.size + 2; omega) (.slice A4 i c4)).set_ 0 (.int .i64 v)).set_ 1 (.int .i64 s)).set_ 2 (.slice A4 i c4)
    simp only [List.setIfInBounds_toArray, List.set_cons_zero, List.set_cons_succ] at H2a H3a
    have e0 := H2a.cell 0
    have e1 := H2a.cell 1
    have e2 := H2a.cell 2
    have HB2 := Lib.hid ((((HB.out.setCell (p := ⟨w.heap.size + 2, 2, none⟩) (by show w.heap.size ≤ w.heap.size + 2; omega) (.slice A4 i c4)).setCell (p := ⟨w.heap.size + 1, 0, none⟩) (by show w.heap.size ≤ w.heap.size + 1; omega) (.int .i64 v)).setCell (p := ⟨w.heap.size + 1, 1, none⟩) (by show w.heap.size ≤ w.heap.size + 1; omega) (.int .i64 s)).setCell (p := ⟨w.heap.size + 1, 2, none⟩) (by show w.heap.size ≤ w.heap.size + 1; omega) (.slice A4 i c4))
    have HIf := Lib.hid (((HIt.out.far B3.out (by decide) (by decide) 2 (.slice A4 i c4)).far (B2.out.far (p := ⟨w.heap.size + 2, 2, none⟩) (by show w.heap.size + 1 ≠ w.heap.size + 2; omega) (.slice A4 i c4)) (by decide) (by decide) 0 (.int .i64 v)).far ((B2.out.far (p := ⟨w.heap.size + 2, 2, none⟩) (by show w.heap.size + 1 ≠ w.heap.size + 2; omega) (.slice A4 i c4)).set_ 0 (.int .i64 v)) (by decide) (by decide) 1 (.int .i64 s))
    have HIg := Lib.hid (HIf.out.far (((B2.out.far (p := ⟨w.heap.size + 2, 2, none⟩) (by show w.heap.size + 1 ≠ w.heap.size + 2; omega) (.slice A4 i c4)).set_ 0 (.int .i64 v)).set_ 1 (.int .i64 s)) (by decide) (by decide) 2 (.slice A4 i c4))
    refine bodyPost_ret (v := .agg #[.int .i64 v, .int .i64 s, .slice A4 i c4]) (by simp [results, Tryz.results59, go_sem, e0, e1, e2]) rfl ?_
    exact ⟨A4, i, c4, rfl, HIg.out, HB2.out⟩
   ·have d1 : decide ((i : Int) < (m : Int)) = false := by simp; omega
    have hcl := cutI_all (l := l) (i := i) (by rw [Hi.out.len]; omega)
    rw [hcl] at HIt
    clear hcl
    have p0 := B3.out.cell 0
    have p1 := B3.out.cell 1
    have p2 := B3.out.cell 2
    have q0 := B3.out.frozen 0
    have q1 := B3.out.frozen 1
    have q2 := B3.out.frozen 2
    have r0 := B2.out.cell 0
    have r1 := B2.out.cell 1
    have r2 := B2.out.cell 2
    have s0 := B2.out.frozen 0
    have s1 := B2.out.frozen 1
    have s2 := B2.out.frozen 2
    go_wp2
    have H3a := B3.out.set_ 2 (.slice A4 i c4)
    have H2a := (((B2.out.far (p := ⟨w.heap.size + 2, 2, none⟩) (by show w.heap.size + 1 ≠ w.heap.size + 2; omega) (.slice A4 i c4)).set_ 0 (.int .i64 v)).set_ 1 (.int .i64 s)).set_ 2 (.slice A4 i c4)
    simp only [List.setIfInBounds_toArray, List.set_cons_zero, List.set_cons_succ] at H2a H3a
    have e0 := H2a.cell 0
    have e1 := H2a.cell 1
    have e2 := H2a.cell 2
    have HB2 := Lib.hid ((((HB.out.setCell (p := ⟨w.heap.size + 2, 2, none⟩) (by show w.heap.size ≤ w.heap.size + 2; omega) (.slice A4 i c4)).setCell (p := ⟨w.heap.size + 1, 0, none⟩) (by show w.heap.size ≤ w.heap.size + 1; omega) (.int .i64 v)).setCell (p := ⟨w.heap.size + 1, 1, none⟩) (by show w.heap.size ≤ w.heap.size + 1; omega) (.int .i64 s)).setCell (p := ⟨w.heap.size + 1, 2, none⟩) (by show w.heap.size ≤ w.heap.size + 1; omega) (.slice A4 i c4))
    have HIf := Lib.hid (((HIt.out.far B3.out (by decide) (by decide) 2 (.slice A4 i c4)).far (B2.out.far (p := ⟨w.heap.size + 2, 2, none⟩) (by show w.heap.size + 1 ≠ w.heap.size + 2; omega) (.slice A4 i c4)) (by decide) (by decide) 0 (.int .i64 v)).far ((B2.out.far (p := ⟨w.heap.size + 2, 2, none⟩) (by show w.heap.size + 1 ≠ w.heap.size + 2; omega) (.slice A4 i c4)).set_ 0 (.int .i64 v)) (by decide) (by decide) 1 (.int .i64 s))
    have HIg := Lib.hid (HIf.out.far (((B2.out.far (p := ⟨w.heap.size + 2, 2, none⟩) (by show w.heap.size + 1 ≠ w.heap.size + 2; omega) (.slice A4 i c4)).set_ 0 (.int .i64 v)).set_ 1 (.int .i64 s)) (by decide) (by decide) 2 (.slice A4 i c4))
    refine bodyPost_ret (v := .agg #[.int .i64 v, .int .i64 s, .slice A4 i c4]) (by simp [results, Tryz.results59, go_sem, e0, e1, e2]) rfl ?_
    exact ⟨A4, i, c4, rfl, HIg.out, HB2.out⟩
end Go.Proofs.YtnkgchmkmhdcaaaGreatDoor
namespace Go.Proofs.YtnkgchmkmhdcaaaGreatDoor
def waitsB (md : Region.Mode) (ops : Array Oper) (k i : Nat) : Bool := match ops[k]? with
 | some o => o.after.any fun e => Region.binds md e && e.on == i
 | none => false
theorem not_waits {md : Region.Mode} {ops : Array Oper} {listed : Array Bool} {j i : Nat} (hj : j ∈ Region.ready md ops listed) (hi : listed.getD i true = false) : waitsB md ops j i = false := by
 obtain ⟨-, o, ho, hall⟩ := mem_ready.1 hj
 unfold waitsB
 rw [ho]
 simp only
 rw [Bool.eq_false_iff]
 intro h
 obtain ⟨e, he, hb⟩ := Array.any_eq_true'.1 h
 simp only [Bool.and_eq_true, beq_iff_eq] at hb
 have h1 := hall e he hb.1
 rw [hb.2] at h1
 rcases Nat.lt_or_ge i listed.size with h' | h'
 ·simp [h'] at hi h1
  rw [hi] at h1
  cases h1
 ·simp [Array.getElem?_eq_none h'] at h1
section
variable {P : Program} {md : Region.Mode} {ops : Array Oper} {Q : Exit → Act → World → Prop} {S S2 : World → Prop}
def usedUp (md : Region.Mode) (ops : Array Oper) (T : List Nat) (listed : Array Bool) : Prop := ∀ i ∈ T, ∃ k, listed.getD k false = true ∧ waitsB md ops k i = true
def wpAnyM (P : Program) (md : Region.Mode) (ops : Array Oper) (Q : Exit → Act → World → Prop) (S : World → Prop) (T : List Nat) : Nat → Array Bool → Act → World → Prop
 | 0, listed, a, w => Region.ready md ops listed = [] ∧ Q .normal a w
 | fuel + 1, listed, a, w => (usedUp md ops T listed ∧ wpAny P md ops Q (fuel + 1) listed a w) ∨
  ((Region.ready md ops listed = [] → Q .normal a w) ∧ ∀ i ∈ Region.ready md ops listed, wpOp P ops Q i (fun a' w' => S w' ∧ wpAnyM P md ops Q S T fuel (listed.setIfInBounds i true) a' w') a w)
theorem wpAny_of_phase {T : List Nat} : ∀ (fuel : Nat) (listed : Array Bool) (a : Act) (w : World), wpAnyM P md ops Q S T fuel listed a w → wpAny P md ops Q fuel listed a w
 | 0, _, _, _, h => h
 | _ + 1, _, _, _, .inl h => h.2
 | fuel + 1, _, _, _, .inr h => ⟨h.1, fun i hi => wpOp_mono (fun a' w' h' => wpAny_of_phase fuel _ a' w' h'.2) (h.2 i hi)⟩
theorem wpAnyM_first {T : List Nat} {i : Nat} {oi : Oper} {v : Value} (hi : ops[i]? = some oi) (hT : i ∈ T) (hs : Region.noSelect ops = true) (hQ : ∀ c a w, Q (.panic c) (a.put oi.dst v) w → Q (.panic c) a w) :
  ∀ (fuel : Nat) (listed : Array Bool) (a : Act) (w : World),
   (∀ j oj, ops[j]? = some oj → j ≠ i → listed.getD j true = false → (∀ e ∈ oj.after, Region.binds md e = true → e.on ≠ i) → oi.apart ops oj = true) →
   (∀ k, listed.getD k false = true → waitsB md ops k i = false) → i ∈ Region.ready md ops listed → YieldsIf P ops S oi v a → S w →
   wpAnyM P md ops Q S T fuel (listed.setIfInBounds i true) (a.put oi.dst v) w → wpAnyM P md ops Q S T (fuel + 1) listed a w := by
 have hsel := Region.noSelect_spec hs
 intro fuel
 induction fuel with
 | zero =>
  intro listed a w _ _ hr hy hS H
  refine .inr ⟨fun h => absurd (h ▸ hr) (by simp), fun j hj => ?_⟩
  by_cases hji : j = i
  ·subst hji
   exact hy.wpOp hi hS ⟨hS, H⟩
  ·exact absurd (H.1 ▸ ready_mono hj hji) (by simp)
 | succ fuel ih =>
  intro listed a w hfree hno hr hy hS H
  have hun := (mem_ready.1 hr).1
  refine .inr ⟨fun h => absurd (h ▸ hr) (by simp), fun j hj => ?_⟩
  by_cases hji : j = i
  ·subst hji
   exact hy.wpOp hi hS ⟨hS, H⟩
  ·rcases H with ⟨H, -⟩ | H
   ·exfalso
    obtain ⟨k, hk, hw⟩ := H i hT
    by_cases hki : i = k
    ·subst hki
     rw [not_waits hr hun] at hw
     cases hw
    ·rw [getD_set_ne false hki] at hk
     rw [hno k hk] at hw
     cases hw
   ·have h1 := H.2 j (ready_mono hj hji)
    have hjw := not_waits hj hun
    obtain ⟨hjun, oj, hoj, -⟩ := mem_ready.1 hj
    have hnot : ∀ e ∈ oj.after, Region.binds md e = true → e.on ≠ i := fun e he hb heq => by
     unfold waitsB at hjw
     rw [hoj] at hjw
     have : (oj.after.any fun e => Region.binds md e && e.on == i) = true := Array.any_eq_true'.2 ⟨e, he, by simp [hb, heq]⟩
     simp only at hjw
     rw [this] at hjw
     cases hjw
    have h2 := wpOp_putIf hoj (hfree j oj hoj hji hjun hnot) (fun cs b => hsel i oi cs b hi) (fun cs b => hsel j oj cs b hoj) hQ hy h1
    refine wpOp_mono (fun a' w' h3 => ⟨h3.2.1, ih (listed.setIfInBounds j true) a' w' (fun k ok hk hki hku hkn => ?_) (fun k hk => ?_) (ready_mono hr (Ne.symm hji)) h3.1 h3.2.1 ?_⟩) h2
    ·refine hfree k ok hk hki ?_ hkn
     by_cases hjk : j = k
     ·subst hjk; exact hjun
     ·rw [getD_set_ne true hjk] at hku; exact hku
    ·by_cases hjk : j = k
     ·subst hjk; exact hjw
     ·rw [getD_set_ne false hjk] at hk; exact hno k hk
    ·rw [Array.setIfInBounds_comm _ _ hji]
     exact h3.2.2
def wpPhase (P : Program) (ops : Array Oper) (Q : Exit → Act → World → Prop) (S : World → Prop) (X : Act → World → Prop) : List (Nat × Bool) → Act → World → Prop
 | [], a, w => X a w
 | (i, true) :: rest, a, w => ∃ o, ops[i]? = some o ∧ ∀ K : Act → World → Prop, (∀ a w, S w → wpPhase P ops Q S X rest a w → K a w) → if Region.wanted o (yielded ops a.tmps) then o.wp P a w K Q else K (a.put o.dst undef) w
 | (i, false) :: rest, a, w => ∃ o v, ops[i]? = some o ∧ YieldsIf P ops S o v a ∧ S w ∧ wpPhase P ops Q S X rest (a.put o.dst v) w
variable {X : Act → World → Prop}
theorem phase_pure {i : Nat} {o : Oper} {d : Tmp} {rest : List (Nat × Bool)} {a : Act} {w : World} {v : Value} (ho : ops[i]? = some o) (hd : o.dst = some d) (hw : Region.wanted o (yielded ops a.tmps) = true) (hS : S w)
  (hy : ∀ w, S w → (execOp a.eval o).run P w = .ok (.value v) w) (h : wpPhase P ops Q S X rest { tmps := a.tmps.setIfInBounds d v, defers := a.defers } w) : wpPhase P ops Q S X ((i, false) :: rest) a w :=
 ⟨o, v, ho, .inl ⟨hw, hy⟩, hS, by rw [hd]; exact h⟩
theorem phase_eff1 {i : Nat} {o : Oper} {rest : List (Nat × Bool)} {a : Act} {w : World} (ho : ops[i]? = some o) (hw : Region.wanted o (yielded ops a.tmps) = true)
  (h : ∀ K : Act → World → Prop, (∀ a w, S w → wpPhase P ops Q S X rest a w → K a w) → o.wp P a w K Q) : wpPhase P ops Q S X ((i, true) :: rest) a w :=
 ⟨o, ho, fun K hK => by rw [if_pos hw]; exact h K hK⟩
theorem phase_end {a : Act} {w : World} (h : X a w) : wpPhase P ops Q S X [] a w := h
def phaseB (md : Region.Mode) (ops : Array Oper) (T : List Nat) (l2 : List (Nat × Bool)) : List (Nat × Bool) → Array Bool → Bool
 | [], listed => (T.all fun i => (List.range ops.size).any fun k => listed.getD k false && waitsB md ops k i) && orderB md ops l2 listed
 | (i, true) :: rest, listed => Region.ready md ops listed == [i] && phaseB md ops T l2 rest (listed.setIfInBounds i true)
 | (i, false) :: rest, listed => T.contains i && Region.free md ops listed i && (Region.ready md ops listed).contains i && ((List.range ops.size).all fun k => !(listed.getD k false) || !(waitsB md ops k i)) && phaseB md ops T l2 rest (listed.setIfInBounds i true)
theorem waits_lt {k i : Nat} (h : waitsB md ops k i = true) : k < ops.size := by
 unfold waitsB at h
 split at h
 ·rename_i o ho
  exact (Array.getElem?_eq_some_iff.1 ho).1
 ·cases h
theorem wpAnyM_of_phase {T : List Nat} {l2 : List (Nat × Bool)} (hl2 : 0 < l2.length) (hs : Region.noSelect ops = true) (hQ : ∀ d v c a w, Q (.panic c) (Act.put a d v) w → Q (.panic c) a w) :
  ∀ (l : List (Nat × Bool)) (fuel : Nat) (listed : Array Bool) (a : Act) (w : World), l.length + l2.length ≤ fuel → phaseB md ops T l2 l listed = true → wpPhase P ops Q S (wpHeld P ops Q S2 l2) l a w → wpAnyM P md ops Q S T fuel listed a w := by
 intro l
 induction l with
 | nil =>
  intro fuel listed a w hf ho h
  obtain ⟨fuel, rfl⟩ : ∃ f, fuel = f + 1 := ⟨fuel - 1, by simp at hf; omega⟩
  simp only [phaseB, Bool.and_eq_true] at ho
  refine .inl ⟨fun i hi => ?_, wpAny_of_held _ _ _ _ (wpAnyH_of_held hs hQ l2 (fuel + 1) listed a w (by simp at hf; omega) ho.2 h)⟩
  have h1 := List.all_eq_true.1 ho.1 i hi
  obtain ⟨k, -, hk⟩ := List.any_eq_true.1 h1
  simp only [Bool.and_eq_true] at hk
  exact ⟨k, hk.1, hk.2⟩
 | cons x rest ih =>
  intro fuel listed a w hf ho h
  obtain ⟨i, b⟩ := x
  simp only [List.length_cons] at hf
  obtain ⟨fuel, rfl⟩ : ∃ f, fuel = f + 1 := ⟨fuel - 1, by omega⟩
  cases b with
  | true =>
   simp only [phaseB, Bool.and_eq_true, beq_iff_eq] at ho
   obtain ⟨o, hoi, hl⟩ := h
   refine .inr ⟨fun h0 => absurd (ho.1.symm.trans h0) (by simp), fun j hj => ?_⟩
   rw [ho.1] at hj
   obtain rfl : j = i := by simpa using hj
   unfold wpOp
   simp only [hoi]
   have := hl (fun a' w' => S w' ∧ wpAnyM P md ops Q S T fuel (listed.setIfInBounds j true) a' w') (fun a w hS h => ⟨hS, ih fuel _ a w (by omega) ho.2 h⟩)
   split at this
   ·rename_i hw
    simp only [hw, if_true]
    exact .inl this
   ·rename_i hw
    simp only [hw, if_false, Bool.false_eq_true]
    exact this
  | false =>
   simp only [phaseB, Bool.and_eq_true] at ho
   obtain ⟨⟨⟨⟨h1, h2⟩, h3⟩, h4⟩, h5⟩ := ho
   obtain ⟨o, v, hoi, hy, hS, hl⟩ := h
   refine wpAnyM_first hoi (by simpa using h1) hs (fun c a w => hQ _ _ c a w) fuel listed a w (Region.free_spec hoi h2) (fun k hk => ?_) (by simpa using h3) hy hS (ih fuel _ _ w (by omega) h5 hl)
   rcases hw : waitsB md ops k i with _ | _
   ·rfl
   ·have := List.all_eq_true.1 h4 k (List.mem_range.2 (waits_lt hw))
    rw [hk, hw] at this
    cases this
theorem wp_region_phase (S : World → Prop) (T : List Nat) (l : List (Nat × Bool)) (S2 : World → Prop) (l2 : List (Nat × Bool)) {id : Nat} {a : Act} {w : World} (hm : P.follows .mixedOrders = true) (hs : Region.noSelect ops = true)
  (ho : (Nat.blt 0 l2.length && l.length + l2.length == ops.size && phaseB .any ops T l2 l (Array.replicate ops.size false)) = true)
  (hQ : ∀ d v c a w, Q (.panic c) (Act.put a d v) w → Q (.panic c) a w)
  (h : wpPhase P ops Q S (wpHeld P ops Q S2 l2) l a w.drew) : (Code.region id ops true).wp P Q a w := by
 simp only [Bool.and_eq_true, beq_iff_eq] at ho
 exact wp_region_any hm (wpAny_of_phase _ _ _ _ (wpAnyM_of_phase (T := T) (by have := ho.1.1; simpa [Nat.blt_eq] using this) hs hQ l ops.size _ a _ (by omega) ho.2 h))
end
end Go.Proofs.YtnkgchmkmhdcaaaGreatDoor
namespace Go.Proofs.YtnkgchmkmhdcaaaGreatDoor
open Go.RowKit Go.Deep Go.ChangeShapes Go.WideShapes Go.Shelf Go.Lib
theorem struct_fields {H : Type} {enc : TypeId × Value → H} {P : Program} {w : World} {held : Bool} {sp : Nat → Bool} {base : Nat} {ts : TypeId} {fs : Array Field} {fuel : Nat} {cs : List Value} {x : DataW H × List MemPlace} (hs : P.underlying ts = some (.struct fs))
  (h : DataW.trod enc P w base sp held fuel ts cs = some x) : ∃ n, cs.length = P.cellsOf ts ∧ ∀ (i : Nat) (f : Field), fs[i]? = some f → ∃ y, DataW.trod enc P w base sp held n f.type ((cs.drop f.offset).take (P.cellsOf f.type)) = some y := by
 obtain ⟨xs, n, _, rfl, hcl, hxl, hf⟩ := DataW.trod_struct hs h
 refine ⟨n, hcl, fun i f hi => ?_⟩
 have g := hf i f hi
 have hlt : i < fs.size := (Array.getElem?_eq_some_iff.1 hi).1
 rw [List.getElem?_eq_getElem (by omega)] at g
 exact ⟨_, g⟩
theorem cell_of {H : Type} {enc : TypeId × Value → H} {w : World} {held : Bool} {n : Nat} {cs : List Value} {y : DataW H × List MemPlace} (hy : DataW.trod enc Tryz.prog w 0 (fun _ => true) held n 23 cs = some y) :
  ∃ c : Cl, cs = [.bool c.1, .int .i64 c.2.1, .string c.2.2] ∧ -9223372036854775808 ≤ c.2.1 ∧ c.2.1 ≤ 9223372036854775807 ∧ c.2.2.size ≤ maxLen := by
 obtain ⟨m, hl, hc⟩ := struct_cells Tryz.underlying23 (by kernel_rfl) (by kernel_rfl) hy
 match cs, hl with
 | [v0, v1, v2], _ =>
  obtain ⟨y0, g0⟩ := hc 0 _ _ rfl rfl
  obtain ⟨y1, g1⟩ := hc 1 _ _ rfl rfl
  obtain ⟨y2, g2⟩ := hc 2 _ _ rfl rfl
  obtain ⟨u, e0, -⟩ := DataW.trod_bool Tryz.underlying4 g0
  obtain ⟨k, e1, _, b1⟩ := DataW.trod_int Tryz.underlying2 g1
  obtain ⟨s, e2, _, b2⟩ := DataW.trod_string Tryz.underlying9 g2
  cases e0
  cases e1
  cases e2
  exact ⟨(u, k, s), rfl, (bounds_i64 b1).1, (bounds_i64 b1).2, b2⟩
theorem ktype_of {H : Type} {enc : TypeId × Value → H} {w : World} {held : Bool} {n : Nat} {cs : List Value} {y : DataW H × List MemPlace} (hy : DataW.trod enc Tryz.prog w 0 (fun _ => true) held n 43 cs = some y) :
  ∃ (k : Int) (nl : Bool), cs = [.int .i64 k, .bool nl] ∧ -9223372036854775808 ≤ k ∧ k ≤ 9223372036854775807 := by
 obtain ⟨m, hl, hc⟩ := struct_cells Tryz.underlying43 (by kernel_rfl) (by kernel_rfl) hy
 match cs, hl with
 | [v0, v1], _ =>
  obtain ⟨y0, g0⟩ := hc 0 _ _ rfl rfl
  obtain ⟨y1, g1⟩ := hc 1 _ _ rfl rfl
  obtain ⟨k, e0, _, b0⟩ := DataW.trod_int Tryz.underlying3 g0
  obtain ⟨u, e1, -⟩ := DataW.trod_bool Tryz.underlying4 g1
  cases e0
  cases e1
  exact ⟨k, u, rfl, (bounds_i64 b0).1, (bounds_i64 b0).2⟩
def CoOk (l : List Co) : Prop := ∀ c ∈ l, -9223372036854775808 ≤ c.2.2.1 ∧ c.2.2.1 ≤ 9223372036854775807
set_option maxRecDepth 100000 in
theorem cols_of {H : Type} {enc : TypeId × Value → H} {w : World} {held : Bool} {a : Option Addr} {len cap : Nat} {d : DataW H} {p : List MemPlace} (h : DataW.Trod enc Tryz.prog w 0 (fun _ => true) held 32 (.slice a len cap) d p) :
  ∃ xs : List Co, Reads w w.heap.size 7 a len (cos xs) ∧ len ≤ cap ∧ cap ≤ maxLen ∧ CoOk xs := by
 haveI : Inhabited Co := ⟨(0, ⟨#[]⟩, 0, false, false, 0, ⟨#[]⟩)⟩
 refine structs_of 7 coV (fun c => -9223372036854775808 ≤ c.2.2.1 ∧ c.2.2.1 ≤ 9223372036854775807) (by decide) (fun _ => rfl) Tryz.underlying32 (by kernel_rfl) (fun n cs y hy => ?_) h
 obtain ⟨m, hl, hc⟩ := struct_fields Tryz.underlying45 hy
 rw [show Tryz.prog.cellsOf 45 = 7 by kernel_rfl] at hl
 match cs, hl with
 | [v0, v1, v2, v3, v4, v5, v6], _ =>
  obtain ⟨y0, g0⟩ : ∃ y, DataW.trod enc Tryz.prog w 0 (fun _ => true) held m 3 (([v0, v1, v2, v3, v4, v5, v6].drop 0).take (Tryz.prog.cellsOf 3)) = some y := hc 0 _ rfl
  obtain ⟨y1, g1⟩ : ∃ y, DataW.trod enc Tryz.prog w 0 (fun _ => true) held m 9 (([v0, v1, v2, v3, v4, v5, v6].drop 1).take (Tryz.prog.cellsOf 9)) = some y := hc 1 _ rfl
  obtain ⟨y2, g2⟩ : ∃ y, DataW.trod enc Tryz.prog w 0 (fun _ => true) held m 43 (([v0, v1, v2, v3, v4, v5, v6].drop 2).take (Tryz.prog.cellsOf 43)) = some y := hc 2 _ rfl
  obtain ⟨y3, g3⟩ : ∃ y, DataW.trod enc Tryz.prog w 0 (fun _ => true) held m 23 (([v0, v1, v2, v3, v4, v5, v6].drop 4).take (Tryz.prog.cellsOf 23)) = some y := hc 3 _ rfl
  rw [show Tryz.prog.cellsOf 3 = 1 by kernel_rfl] at g0
  rw [show Tryz.prog.cellsOf 9 = 1 by kernel_rfl] at g1
  rw [show Tryz.prog.cellsOf 43 = 2 by kernel_rfl] at g2
  rw [show Tryz.prog.cellsOf 23 = 3 by kernel_rfl] at g3
  simp only [List.drop_zero, List.drop_succ_cons, List.take_succ_cons, List.take_zero] at g0 g1 g2 g3
  obtain ⟨i, e0, -, -⟩ := DataW.trod_int Tryz.underlying3 g0
  obtain ⟨s, e1, -, -⟩ := DataW.trod_string Tryz.underlying9 g1
  obtain ⟨k, nl, e2, b2⟩ := ktype_of g2
  obtain ⟨c, e3, -⟩ := cell_of g3
  cases e0
  cases e1
  cases e2
  cases e3
  exact ⟨(i, s, k, nl, c), rfl, b2⟩
theorem items_of {H : Type} {enc : TypeId × Value → H} {w : World} {held : Bool} {a : Option Addr} {len cap : Nat} {d : DataW H} {p : List MemPlace} (h : DataW.Trod enc Tryz.prog w 0 (fun _ => true) held 27 (.slice a len cap) d p) :
  ∃ l : List It, ItemsAt w w.heap.size a len l ∧ len ≤ cap ∧ cap ≤ maxLen ∧ ItOk l := by
 haveI : Inhabited (Hd × It) := ⟨(none, 0, 0), [], 0⟩
 obtain ⟨xs, h1, h2, h3, h4⟩ := structs_of 2 (fun q : Hd × It => itV q.1 q.2) (fun q => (Reads w w.heap.size 3 q.1.1 q.1.2.1 (cls q.2.1) ∧ q.1.2.1 ≤ q.1.2.2 ∧ q.1.2.2 ≤ maxLen) ∧ ClOk q.2.1 ∧ -9223372036854775808 ≤ q.2.2 ∧ q.2.2 ≤ 9223372036854775807) (by decide) (fun _ => rfl)
  Tryz.underlying27 (by kernel_rfl) (fun n cs y hy => by
   obtain ⟨m, hl, hc⟩ := struct_cells Tryz.underlying26 (by kernel_rfl) (by kernel_rfl) hy
   match cs, hl with
   | [v0, v1], _ =>
    obtain ⟨y0, g0⟩ := hc 0 _ _ rfl rfl
    obtain ⟨y1, g1⟩ := hc 1 _ _ rfl rfl
    obtain ⟨k, e1, _, b1⟩ := DataW.trod_int Tryz.underlying2 g1
    rcases open_slice Tryz.underlying24 g0 with ⟨e0, -⟩ | ⟨ad, l, c, -, -, -, -, e0, -⟩
    ·cases e0
     cases e1
     obtain ⟨r, r1, r2, r3, r4⟩ := cells_of (a := none) (len := 0) (cap := 0) ⟨m, g0⟩
     exact ⟨((none, 0, 0), r, k), rfl, ⟨r1, r2, r3⟩, r4, (bounds_i64 b1).1, (bounds_i64 b1).2⟩
    ·cases e0
     cases e1
     obtain ⟨r, r1, r2, r3, r4⟩ := cells_of (a := some ad) (len := l) (cap := c) ⟨m, g0⟩
     exact ⟨((some ad, l, c), r, k), rfl, ⟨r1, r2, r3⟩, r4, (bounds_i64 b1).1, (bounds_i64 b1).2⟩) h
 have hz : (xs.map (·.1)).zip (xs.map (·.2)) = xs := by
  rw [List.zip_map']
  simp
 refine ⟨xs.map (·.2), ⟨xs.map (·.1), ?_, by simp, fun j g it hg hi => ?_⟩, h2, h3, fun it hit => ?_⟩
 ·unfold its
  rw [hz]
  exact h1
 ·rw [List.getElem?_map] at hg hi
  cases hx : xs[j]? with
  | none => rw [hx] at hg; cases hg
  | some q =>
   rw [hx] at hg hi
   cases hg
   cases hi
   exact (h4 q (List.mem_of_getElem? hx)).1
 ·obtain ⟨q, hq, rfl⟩ := List.mem_map.1 hit
  exact (h4 q hq).2
theorem batch_of {H : Type} {enc : TypeId × Value → H} {w : World} {held : Bool} {cs : Array Value} {d : DataW H} {p : List MemPlace} (h : DataW.Trod enc Tryz.prog w 0 (fun _ => true) held 30 (.agg cs) d p) :
  ∃ (v s : Int) (a : Option Addr) (len cap : Nat) (l : List It), cs = #[.int .i64 v, .int .i64 s, .slice a len cap] ∧ (-9223372036854775808 ≤ v ∧ v ≤ 9223372036854775807) ∧ (-9223372036854775808 ≤ s ∧ s ≤ 9223372036854775807) ∧ ItemsAt w w.heap.size a len l ∧ len ≤ cap ∧ cap ≤ maxLen ∧ ItOk l := by
 obtain ⟨fuel, hf⟩ := h
 obtain ⟨m, hl, hc⟩ := struct_cells Tryz.underlying30 (by kernel_rfl) (by kernel_rfl) hf
 obtain ⟨cl, hcl⟩ : ∃ cl, cl = cs.toList := ⟨_, rfl⟩
 have hcs : cs = cl.toArray := by rw [hcl]
 have hcells : (Value.agg cs).cells = cs := rfl
 rw [hcells, ← hcl] at hl hc
 match cl, hl with
 | [v0, v1, v2], _ =>
  obtain ⟨y0, g0⟩ := hc 0 _ _ rfl rfl
  obtain ⟨y1, g1⟩ := hc 1 _ _ rfl rfl
  obtain ⟨y2, g2⟩ := hc 2 _ _ rfl rfl
  obtain ⟨v, e0, _, b0⟩ := DataW.trod_int Tryz.underlying3 g0
  obtain ⟨s, e1, _, b1⟩ := DataW.trod_int Tryz.underlying2 g1
  rcases open_slice Tryz.underlying27 g2 with ⟨e2, -⟩ | ⟨ad, l, c, -, -, -, -, e2, -⟩
  ·cases e0
   cases e1
   cases e2
   obtain ⟨r, r1, r2, r3, r4⟩ := items_of (a := none) (len := 0) (cap := 0) ⟨m, g2⟩
   exact ⟨v, s, none, 0, 0, r, hcs, bounds_i64 b0, bounds_i64 b1, r1, r2, r3, r4⟩
  ·cases e0
   cases e1
   cases e2
   obtain ⟨r, r1, r2, r3, r4⟩ := items_of (a := some ad) (len := l) (cap := c) ⟨m, g2⟩
   exact ⟨v, s, some ad, l, c, r, hcs, bounds_i64 b0, bounds_i64 b1, r1, r2, r3, r4⟩
end Go.Proofs.YtnkgchmkmhdcaaaGreatDoor
namespace Go.Proofs.YtnkgchmkmhdcaaaGreatDoor
open Go.RowKit Go.Deep Go.ChangeShapes Go.WideShapes Go.Shelf Go.Lib
def crcData : DataW Unit := tabData .u32 (crcTab.map Int.ofNat)
theorem ctab_of {w : World} (h : VarReads Tryz.prog w "millstream/crc.table" crcData) : CTab w := by
 intro i hi
 obtain ⟨g, t, cs, fuel, p, hg, hty, hvar, hd⟩ := h
 obtain rfl : g = 0 := Option.some.inj (hg.symm.trans (by kernel_rfl))
 obtain rfl : t = 224 := Option.some.inj (hty.symm.trans (by kernel_rfl))
 have hcs := cells_of_tab Tryz.underlying224 Tryz.underlying69 (by kernel_rfl) (by kernel_rfl) hd
 rw [World.var?_cell hg hvar i, ← Array.getElem?_toList, hcs]
 have := step4_tab i hi
 simp [this]
end Go.Proofs.YtnkgchmkmhdcaaaGreatDoor
namespace Go.Proofs.YtnkgchmkmhdcaaaGreatDoor
open Go.RowKit
theorem cellE_ok {k : Int} {nl : Bool} {c : Cl} (hk : mayK k = true) (h : checkE k nl c = 0) : -9223372036854775808 ≤ c.2.1 ∧ c.2.1 ≤ 9223372036854775807 ∧ c.2.2.size ≤ maxLen := by
 obtain ⟨h1, h5⟩ : 1 ≤ k ∧ k ≤ 5 := by simpa [mayK] using hk
 have ha : allC k nl [c] = true := by simp [allC, h]
 obtain ⟨ho, hn⟩ := (allC_iff k nl [c] hk).1 ha
 cases hu : c.1 with
 | true =>
  obtain ⟨-, rfl⟩ := hn c (by simp) hu
  exact ⟨by decide, by decide, by decide⟩
 | false =>
  have hi := (ho c (List.mem_filter.2 ⟨by simp, by simp [hu]⟩)).2
  have hs := size_of_ok h1 h5 hi
  refine ⟨?_, ?_, Nat.le_trans hs (by decide)⟩
  all_goals
   rcases (show k = 1 ∨ k = 2 ∨ k = 3 ∨ k = 4 ∨ k = 5 by omega) with rfl | rfl | rfl | rfl | rfl
   all_goals simp [isC, sizeC] at hi; omega
theorem Fits.itOk {cs : List Co} {b : Ba} (h : Fits cs b) (hb : BaOk b) : ItOk b.2.2 := by
 intro it hit
 obtain ⟨hl, hc⟩ := rowE_zero (h.items it hit).1
 refine ⟨fun c hm => ?_, hb.2 it hit⟩
 obtain ⟨j, hj⟩ := List.getElem?_of_mem hm
 have hlt := (List.getElem?_eq_some_iff.1 hj).1
 have hco := List.getElem?_eq_getElem (l := cs) (i := j) (by omega)
 exact cellE_ok (mayCs_at h.may hco) (hc j _ _ hco hj)
theorem cutl_ok {l : List It} (h : ItOk l) : ItOk (cutl l) := by
 intro it hit
 obtain ⟨x, hx, rfl⟩ := List.mem_map.1 hit
 obtain ⟨h1, h2⟩ := h x (List.mem_of_mem_take hx)
 exact ⟨cutr_ok h1, h2⟩
structure LawB (w : World) (A1 : Option Addr) (k1 : Nat) (lc : List Co) (v s : Int) (A : Option Addr) (k c : Nat) (l : List It) (wc : World) : Prop where
 below : Below w.heap.size w wc
 box : Blk wc w.heap.size 30 #[.int .i64 v, .int .i64 s, .slice A k c]
 cols : Reads wc wc.heap.size 7 A1 k1 (cos lc)
 items : ItemsAt wc wc.heap.size A k l
 tab : Tab2 wc.heap.size wc
 le1 : k1 ≤ 40
 le2 : k ≤ 30
 ok : ItOk l
 sok : s ≤ 9223372036854775807
section
variable {w wc w' : World} {A1 A : Option Addr} {k1 k c : Nat} {lc : List Co} {v s : Int} {l : List It}
theorem LawB.on (h : LawB w A1 k1 lc v s A k c l wc) (hb : Below wc.heap.size wc w') : LawB w A1 k1 lc v s A k c l w' :=
 ⟨bon h.below hb, h.box.on hb, h.cols.on hb, h.items.on hb, h.tab.on hb, h.le1, h.le2, h.ok, h.sok⟩
theorem LawB.al (h : LawB w A1 k1 lc v s A k c l wc) (o : Obj) : LawB w A1 k1 lc v s A k c l (wc.alloc o) := h.on (bal (Below.refl _ _) o)
theorem LawB.max1 (h : LawB w A1 k1 lc v s A k c l wc) : k1 ≤ maxLen := Nat.le_trans h.le1 (by decide)
theorem LawB.max2 (h : LawB w A1 k1 lc v s A k c l wc) : k ≤ maxLen := Nat.le_trans h.le2 (by decide)
theorem LawB.baok (h : LawB w A1 k1 lc v s A k c l wc) : BaOk (v, s, l) := baOk_of h.sok h.ok
end
theorem box_put {w3 w4 : World} {b base : Nat} {x y z v s : Value} {A : Option Addr} {k c : Nat} {l : List It} (hB : Blk w3 b 30 #[x, y, z]) (hi : ItemsOwn w3 base A k c l)
  (h4 : w4 = ((w3.setCell ⟨b, 0, none⟩ v).setCell ⟨b, 1, none⟩ s).setCell ⟨b, 2, none⟩ (.slice A k c)) :
  Blk w4 b 30 #[v, s, .slice A k c] ∧ ItemsOwn w4 base A k c l ∧ (∀ B, B ≤ b → Below B w3 w4) ∧
  (∀ {base2 size n : Nat} {t : TypeId} {u : Value} {xs : List Value}, w3.ownsRow base2 t size u n xs → t ≠ 30 → w4.ownsRow base2 t size u n xs) ∧
  (∀ {base2 n2 c2 : Nat} {A2 : Option Addr} {l2 : List It}, ItemsOwn w3 base2 A2 n2 c2 l2 → ItemsOwn w4 base2 A2 n2 c2 l2) ∧
  (∀ {b2 : Nat} {t : TypeId} {cs : Array Value}, Blk w3 b2 t cs → b2 ≠ b → Blk w4 b2 t cs) := by
 subst h4
 have g0 := hB.set_ 0 v
 have g1 := g0.set_ 1 s
 have g2 := g1.set_ 2 (.slice A k c)
 simp only [List.setIfInBounds_toArray, List.set_cons_zero, List.set_cons_succ] at g0 g1 g2
 refine ⟨g2, ((hi.far hB (by decide) (by decide) 0 _).far g0 (by decide) (by decide) 1 _).far g1 (by decide) (by decide) 2 _, fun B hb => (((Below.refl B w3).setCell (p := ⟨b, 0, none⟩) hb _).setCell (p := ⟨b, 1, none⟩) hb _).setCell (p := ⟨b, 2, none⟩) hb _, fun h ht => own_far (own_far (own_far h hB ht 0 _) g0 ht 1 _) g1 ht 2 _,
  fun h => ((h.far hB (by decide) (by decide) 0 _).far g0 (by decide) (by decide) 1 _).far g1 (by decide) (by decide) 2 _, fun h hne => ?_⟩
 exact ((h.far (p := ⟨b, 0, none⟩) hne _).far (p := ⟨b, 1, none⟩) hne _).far (p := ⟨b, 2, none⟩) hne _
end Go.Proofs.YtnkgchmkmhdcaaaGreatDoor
