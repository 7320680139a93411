/- Part 16 of the walks, merged: each text under its own heading. Conditions: none of its own; each lemma states what it asks. -/
import Derived.Test.YtjpjalmilfgckaaGreatDoorBk7
import Derived.Test.YtjpjalmilfgckaaGreatDoorBk8
import Derived.Test.YtjpjalmilfgckaaGreatDoorBk15
set_option linter.unusedVariables false
set_option linter.unusedSimpArgs false
namespace Go.Proofs.YtjpjalmilfgckaaGreatDoor
open Go.RowKit
def coV (c : Co) : List Value := [.int .i64 c.1, .string c.2.1, .int .i64 c.2.2.1, .bool c.2.2.2.1, .bool c.2.2.2.2.1, .int .i64 c.2.2.2.2.2.1, .string c.2.2.2.2.2.2]
def cos (l : List Co) : List Value := l.flatMap coV
theorem cos_length (l : List Co) : (cos l).length = 7 * l.length := by
 rw [cos, flatMap_length _ 7 (fun _ => rfl)]
 omega
theorem cos_len {w : World} {B n : Nat} {A : Option Addr} {l : List Co} (h : Reads w B 7 A n (cos l)) : l.length = n := by
 have := h.1
 rw [cos_length] at this
 omega
theorem cos_one (l : List Co) : ∀ u ∈ cos l, u.oneCell' = true := by
 intro u hu
 obtain ⟨c, -, hc⟩ := List.mem_flatMap.1 hu
 simp [coV] at hc
 rcases hc with rfl | rfl | rfl | rfl | rfl | rfl | rfl <;> rfl
structure CoAt (w : World) (p : Addr) (c : Co) : Prop where
 c0 : w.cell? p = some (.int .i64 c.1)
 c1 : w.cell? ⟨p.block, p.off + 1, none⟩ = some (.string c.2.1)
 c2 : w.cell? ⟨p.block, p.off + 2, none⟩ = some (.int .i64 c.2.2.1)
 c3 : w.cell? ⟨p.block, p.off + 3, none⟩ = some (.bool c.2.2.2.1)
 c4 : w.cell? ⟨p.block, p.off + 4, none⟩ = some (.bool c.2.2.2.2.1)
 c5 : w.cell? ⟨p.block, p.off + 5, none⟩ = some (.int .i64 c.2.2.2.2.2.1)
 c6 : w.cell? ⟨p.block, p.off + 6, none⟩ = some (.string c.2.2.2.2.2.2)
theorem cos_at {w : World} {B n k : Nat} {A : Option Addr} {l : List Co} (h : Reads w B 7 A n (cos l)) (hk : k < n) : ∃ ad c, A = some ad ∧ ad.block < B ∧ l[k]? = some c ∧ CoAt w (ad.add (k * 7)) c := by
 have hl := cos_len h
 obtain ⟨ad, e, hb, hc⟩ := h.2 (by omega)
 have key : ∀ j v, (coV l[k])[j]? = some v → w.cell? ((ad.add (k * 7)).add j) = some v := fun j v hv => by
  have hj : j < 7 := (List.getElem?_eq_some_iff.1 hv).1
  rw [add_of_add]
  exact hc _ _ (by rw [cos, flatMap_at _ 7 (fun _ => rfl) l k j l[k] (List.getElem?_eq_getElem (by omega)) hj]; exact hv)
 refine ⟨ad, l[k], e, hb, List.getElem?_eq_getElem (by omega), ?_, ?_, ?_, ?_, ?_, ?_, ?_⟩
 ·have := key 0 _ rfl
  rwa [addc_zero] at this
 ·have := key 1 _ rfl
  rwa [addc_pos _ _ (by decide)] at this
 ·have := key 2 _ rfl
  rwa [addc_pos _ _ (by decide)] at this
 ·have := key 3 _ rfl
  rwa [addc_pos _ _ (by decide)] at this
 ·have := key 4 _ rfl
  rwa [addc_pos _ _ (by decide)] at this
 ·have := key 5 _ rfl
  rwa [addc_pos _ _ (by decide)] at this
 ·have := key 6 _ rfl
  rwa [addc_pos _ _ (by decide)] at this
theorem CoAt.on {w w' : World} {p : Addr} {c : Co} {B : Nat} (h : CoAt w p c) (hb : Below B w w') (hp : p.block < B) : CoAt w' p c :=
 ⟨(hb.cell hp).trans h.c0, (hb.cell (p := ⟨p.block, p.off + 1, none⟩) hp).trans h.c1, (hb.cell (p := ⟨p.block, p.off + 2, none⟩) hp).trans h.c2, (hb.cell (p := ⟨p.block, p.off + 3, none⟩) hp).trans h.c3,
  (hb.cell (p := ⟨p.block, p.off + 4, none⟩) hp).trans h.c4, (hb.cell (p := ⟨p.block, p.off + 5, none⟩) hp).trans h.c5, (hb.cell (p := ⟨p.block, p.off + 6, none⟩) hp).trans h.c6⟩
abbrev Hd := Option Addr × Nat × Nat
def itV (h : Hd) (it : It) : List Value := [.slice h.1 h.2.1 h.2.2, .int .i64 it.2]
def its (hs : List Hd) (l : List It) : List Value := (hs.zip l).flatMap fun p => itV p.1 p.2
theorem its_length (hs : List Hd) (l : List It) (h : hs.length = l.length) : (its hs l).length = 2 * l.length := by
 rw [its, flatMap_length _ 2 (fun _ => rfl), List.length_zip]
 omega
def RowsAt (w : World) (B : Nat) (hs : List Hd) (l : List It) : Prop := hs.length = l.length ∧ ∀ (j : Nat) h it, hs[j]? = some h → l[j]? = some it → Reads w B 3 h.1 h.2.1 (cls it.1) ∧ h.2.1 ≤ h.2.2 ∧ h.2.2 ≤ maxLen
def ItemsAt (w : World) (B : Nat) (A : Option Addr) (n : Nat) (l : List It) : Prop := ∃ hs, Reads w B 2 A n (its hs l) ∧ RowsAt w B hs l
section
variable {w w' : World} {B B' n : Nat} {A : Option Addr} {hs : List Hd} {l : List It}
theorem RowsAt.below (h : RowsAt w B hs l) (hb : Below B w w') : RowsAt w' B hs l := ⟨h.1, fun j g it h1 h2 => ⟨(h.2 j g it h1 h2).1.below hb, (h.2 j g it h1 h2).2⟩⟩
theorem RowsAt.more (h : RowsAt w B hs l) (hB : B ≤ B') : RowsAt w B' hs l := ⟨h.1, fun j g it h1 h2 => ⟨(h.2 j g it h1 h2).1.more hB, (h.2 j g it h1 h2).2⟩⟩
theorem RowsAt.on (h : RowsAt w w.heap.size hs l) (hb : Below w.heap.size w w') : RowsAt w' w'.heap.size hs l := (h.below hb).more hb.size
theorem RowsAt.al (h : RowsAt w w.heap.size hs l) (o : Obj) : RowsAt (w.alloc o) (w.alloc o).heap.size hs l := h.on (bal (Below.refl _ _) o)
theorem RowsAt.nil : RowsAt w B [] [] := ⟨rfl, fun j g it h => by simp at h⟩
theorem RowsAt.snoc {h : Hd} {it : It} (h0 : RowsAt w B hs l) (h1 : Reads w B 3 h.1 h.2.1 (cls it.1)) (h2 : h.2.1 ≤ h.2.2) (h3 : h.2.2 ≤ maxLen) : RowsAt w B (hs ++ [h]) (l ++ [it]) := by
 refine ⟨by simp [h0.1], fun j g jt g1 g2 => ?_⟩
 rcases Nat.lt_or_ge j hs.length with hj | hj
 ·rw [List.getElem?_append_left hj] at g1
  rw [List.getElem?_append_left (by rw [← h0.1]; exact hj)] at g2
  exact h0.2 j g jt g1 g2
 ·rw [List.getElem?_append_right hj] at g1
  rw [List.getElem?_append_right (by rw [← h0.1]; exact hj), ← h0.1] at g2
  obtain ⟨h4, h5⟩ : j - hs.length = 0 ∧ True := ⟨by have := (List.getElem?_eq_some_iff.1 g1).1; simp at this; omega, trivial⟩
  rw [h4] at g1 g2
  simp only [List.getElem?_cons_zero, Option.some.injEq] at g1 g2
  subst g1 g2
  exact ⟨h1, h2, h3⟩
theorem RowsAt.take (h : RowsAt w B hs l) (k : Nat) : RowsAt w B (hs.take k) (l.take k) := by
 refine ⟨by simp [h.1], fun j g it g1 g2 => ?_⟩
 rw [List.getElem?_take] at g1 g2
 split at g1
 ·rename_i hk
  rw [if_pos hk] at g2
  exact h.2 j g it g1 g2
 ·cases g1
theorem its_take (hl : hs.length = l.length) (k : Nat) : (its hs l).take (k * 2) = its (hs.take k) (l.take k) := by
 induction k generalizing hs l with
 | zero => simp [its]
 | succ k ih =>
  cases hs with
  | nil => simp [its]
  | cons h hs =>
   cases l with
   | nil => simp at hl
   | cons it l =>
    have := ih (hs := hs) (l := l) (by simpa using hl)
    have e1 : its (h :: hs) (it :: l) = itV h it ++ its hs l := rfl
    have e2 : its ((h :: hs).take (k + 1)) ((it :: l).take (k + 1)) = itV h it ++ its (hs.take k) (l.take k) := rfl
    have e3 : (itV h it).length = 2 := rfl
    rw [e1, e2, ← this, show (k + 1) * 2 = (itV h it).length + k * 2 by rw [e3]; omega, List.take_append, List.take_of_length_le (by omega), Nat.add_sub_cancel_left]
theorem its_snoc (hl : hs.length = l.length) (h : Hd) (it : It) : its (hs ++ [h]) (l ++ [it]) = its hs l ++ itV h it := by
 unfold its
 rw [List.zip_append hl]
 simp
theorem ItemsAt.len (h : ItemsAt w B A n l) : l.length = n := by
 obtain ⟨hs, h1, h2⟩ := h
 have := h1.1
 rw [its_length hs l h2.1] at this
 omega
theorem ItemsAt.below (h : ItemsAt w B A n l) (hb : Below B w w') : ItemsAt w' B A n l := by
 obtain ⟨hs, h1, h2⟩ := h
 exact ⟨hs, h1.below hb, h2.below hb⟩
theorem ItemsAt.more (h : ItemsAt w B A n l) (hB : B ≤ B') : ItemsAt w B' A n l := by
 obtain ⟨hs, h1, h2⟩ := h
 exact ⟨hs, h1.more hB, h2.more hB⟩
theorem ItemsAt.on (h : ItemsAt w w.heap.size A n l) (hb : Below w.heap.size w w') : ItemsAt w' w'.heap.size A n l := (h.below hb).more hb.size
theorem ItemsAt.al (h : ItemsAt w w.heap.size A n l) (o : Obj) : ItemsAt (w.alloc o) (w.alloc o).heap.size A n l := h.on (bal (Below.refl _ _) o)
theorem ItemsAt.drew (h : ItemsAt w B A n l) : ItemsAt w.drew B A n l := h
theorem ItemsAt.nil : ItemsAt w B none 0 [] := ⟨[], Reads.none_, RowsAt.nil⟩
theorem ItemsAt.head (h : ItemsAt w B A n l) {k : Nat} (hk : k ≤ n) : ItemsAt w B A k (l.take k) := by
 obtain ⟨hs, h1, h2⟩ := h
 have := h1.head hk
 rw [its_take h2.1] at this
 exact ⟨hs.take k, this, h2.take k⟩
theorem ItemsAt.at_ {k : Nat} (h : ItemsAt w B A n l) (hk : k < n) : ∃ ad A' c' it, A = some ad ∧ ad.block < B ∧ l[k]? = some it ∧ w.cell? (ad.add (k * 2)) = some (.slice A' it.1.length c') ∧
  w.cell? ⟨(ad.add (k * 2)).block, (ad.add (k * 2)).off + 1, none⟩ = some (.int .i64 it.2) ∧ Reads w B 3 A' it.1.length (cls it.1) ∧ it.1.length ≤ c' ∧ c' ≤ maxLen := by
 have hl := h.len
 obtain ⟨hs, h1, h2⟩ := h
 obtain ⟨ad, e, hb, hc⟩ := h1.2 (by omega)
 have hkh : k < hs.length := by rw [h2.1]; omega
 have hit := List.getElem?_eq_getElem (l := l) (i := k) (by omega)
 have hhd := List.getElem?_eq_getElem hkh
 obtain ⟨g1, g2, g3⟩ := h2.2 k _ _ hhd hit
 have hln := cls_len g1
 have key : ∀ j v, (itV hs[k] l[k])[j]? = some v → w.cell? ((ad.add (k * 2)).add j) = some v := fun j v hv => by
  have hj : j < 2 := (List.getElem?_eq_some_iff.1 hv).1
  rw [add_of_add]
  refine hc _ _ ?_
  rw [its, flatMap_at _ 2 (fun _ => rfl) (hs.zip l) k j (hs[k], l[k]) (by rw [List.getElem?_zip_eq_some]; exact ⟨hhd, hit⟩) hj]
  exact hv
 refine ⟨ad, hs[k].1, hs[k].2.2, l[k], e, hb, hit, ?_, ?_, by rw [hln]; exact g1, by rw [hln]; exact g2, g3⟩
 ·have := key 0 _ rfl
  rw [addc_zero] at this
  rw [hln]
  exact this
 ·have := key 1 _ rfl
  rwa [addc_pos _ _ (by decide)] at this
end
def ItOk (l : List It) : Prop := ∀ it ∈ l, ClOk it.1 ∧ -9223372036854775808 ≤ it.2 ∧ it.2 ≤ 9223372036854775807
theorem ItOk.take {l : List It} (h : ItOk l) (k : Nat) : ItOk (l.take k) := fun it hit => h it (List.mem_of_mem_take hit)
end Go.Proofs.YtjpjalmilfgckaaGreatDoor
namespace Go.Proofs.YtjpjalmilfgckaaGreatDoor
open Go.RowKit
set_option maxRecDepth 100000 in
set_option maxHeartbeats 1000000 in
theorem rowc1_any (g : Nat) (A : Option Addr) (n c : Nat) (cs : List Co) (k : Nat) (u : Bool) (x : Int) (s : ByteArray) (co : Co) (w : World) (hg : w.cell? ⟨g, 0, none⟩ = some (.slice A n c)) (hgl : g < w.heap.size) (hr : Reads w w.heap.size 7 A n (cos cs)) (hk : k < n) (hco : cs[k]? = some co) (hT : Tabs w) :
  Calls Tryz.prog 160 #[.int .i64 (k : Int), .agg #[.bool u, .int .i64 x, .string s], .pointer (some ⟨g, 0, none⟩)] w fun e w' => e = .returned (.int .i64 (checkE co.2.2.1 co.2.2.2.1 (u, x, s))) ∧ Below w.heap.size w w' := by
 obtain ⟨ad, c', rfl, hb, hc', hat⟩ := cos_at hr hk
 rw [hco] at hc'
 cases hc'
 have HT := Lib.hid hT
 have hk2 : (k : Int) < (n : Int) := by omega
 have hbl : (ad.add (k * 7)).block < w.heap.size := by rw [block_of_add]; exact hb
 obtain ⟨W, hW⟩ : ∃ W, W = w.alloc (.cells #[.bool u, .int .i64 x, .string s] 23) := ⟨_, rfl⟩
 have hb1 : Below w.heap.size w W := by rw [hW]; exact (Below.refl w.heap.size w).alloc (Nat.le_refl _) _
 have HX := Lib.hid (show Blk W w.heap.size 23 #[.bool u, .int .i64 x, .string s] by rw [hW]; exact Blk.new w _ _)
 have hat := hat.on hb1 hbl
 have hbl := Nat.lt_of_lt_of_le hbl hb1.size
 have hg := (hb1.cell (p := ⟨g, 0, none⟩) hgl).trans hg
 have hgl := Nat.lt_of_lt_of_le hgl hb1.size
 have HG := Lib.hid (show ∀ w', Below W.heap.size W w' → w'.cell? ⟨g, 0, none⟩ = some (.slice (some ad) n c) from fun w' h => (h.cell (p := ⟨g, 0, none⟩) hgl).trans hg)
 have H2 := Lib.hid (show ∀ w', Below W.heap.size W w' → w'.cell? ⟨(ad.add (k * 7)).block, (ad.add (k * 7)).off + 2, none⟩ = some (.int .i64 co.2.2.1) from fun w' h => (hat.on h hbl).c2)
 have H3 := Lib.hid (show ∀ w', Below W.heap.size W w' → w'.cell? ⟨(ad.add (k * 7)).block, (ad.add (k * 7)).off + 2 + 1, none⟩ = some (.bool co.2.2.2.1) from fun w' h => (hat.on h hbl).c3)
 have X0 := Lib.hid (show ∀ w', Below W.heap.size W w' → w'.cell? ⟨w.heap.size, 0, none⟩ = some (.bool u) from fun w' h => (HX.out.on h).cell 0)
 have X1 := Lib.hid (show ∀ w', Below W.heap.size W w' → w'.cell? ⟨w.heap.size, 1, none⟩ = some (.int .i64 x) from fun w' h => (HX.out.on h).cell 1)
 have X2 := Lib.hid (show ∀ w', Below W.heap.size W w' → w'.cell? ⟨w.heap.size, 2, none⟩ = some (.string s) from fun w' h => (HX.out.on h).cell 2)
 have Hb1 := Lib.hid hb1
 have HTW := Lib.hid (HT.out.on hb1)
 have HW := Lib.hid hW
 clear hr hco hb hat hT hg hgl hbl hb1 hW HX
 generalize hk7 : ad.add (k * 7) = ak at *
 go_enter Tryz.func160, Tryz.ntmps160
 go_wp2
 rw [← HW.out]
 have hS : Below W.heap.size W W.drew := (Below.refl _ _).drew
 refine wp_region_keep (fun w' => Below W.heap.size W w') [(0, false), (1, false), (2, false), (3, false), (4, false), (5, false), (6, true), (7, false)] (by kernel_rfl) (by kernel_rfl) (by kernel_rfl) (fun d _ _ _ _ h => by cases d <;> exact h) ?_
 refine held_pure (v := ?_) rfl rfl (by simp [Region.wanted, yielded]) hS ?_ ?_
 rotate_left
 ·intro w hw; have c0 := HG.out w hw; clear hw; go_simp; try with_reducible rfl
 try simp only [Act.put, zpA, zpB, zpC]
 iterate 3
  refine held_pure (v := ?_) rfl rfl (by simp [Region.wanted, yielded]) hS ?_ ?_
  rotate_left
  ·intro w hw; go_simp; try with_reducible rfl
  try simp only [Act.put, zpA, zpB, zpC]
 refine held_pure (v := ?_) rfl rfl (by simp [Region.wanted, yielded]) hS ?_ ?_
 rotate_left
 ·intro w hw; have c0 := H2.out w hw; have c1 := H3.out w hw; clear hw; go_simp; try with_reducible rfl
 try simp only [Act.put, zpA, zpB, zpC]
 refine held_pure (v := ?_) rfl rfl (by simp [Region.wanted, yielded]) hS ?_ ?_
 rotate_left
 ·intro w hw; have c0 := X0.out w hw; have c1 := X1.out w hw; have c2 := X2.out w hw; clear hw; go_simp; try with_reducible rfl
 try simp only [Act.put, zpA, zpB, zpC]
 refine held_eff1 rfl (by simp [Region.wanted, yielded]) fun K hK => ?_
 go_simp
 with_reducible refine (check_any3 co.2.2.1 co.2.2.2.1 u x s _ (HTW.out.on hS)).mono ?_
 rintro e w5 ⟨rfl, hb5⟩
 refine held_go hK (by exact bon hS hb5) fun hS => ?_
 clear hK K
 try simp only [Act.put, zpA, zpB, zpC]
 clear hb5
 refine held_pure (v := ?_) rfl rfl (by simp [Region.wanted, yielded]) hS ?_ ?_
 rotate_left
 ·intro w hw; go_simp; try with_reducible rfl
 try simp only [Act.put, zpA, zpB, zpC]
 refine held_end ?_
 have HB := Lib.hid (bon Hb1.out hS)
 clear hS
 go_wp2
 go_ret
 exact ⟨rfl, HB.out⟩
theorem cellsE_drop (cs : List Co) (r : List Cl) (k : Nat) (co : Co) (x : Cl) (h1 : cs[k]? = some co) (h2 : r[k]? = some x) :
  cellsE (cs.drop k) (r.drop k) = if checkE co.2.2.1 co.2.2.2.1 x = 0 then cellsE (cs.drop (k + 1)) (r.drop (k + 1)) else checkE co.2.2.1 co.2.2.2.1 x := by
 obtain ⟨g1, rfl⟩ := List.getElem?_eq_some_iff.1 h1
 obtain ⟨g2, rfl⟩ := List.getElem?_eq_some_iff.1 h2
 rw [List.drop_eq_getElem_cons g1, List.drop_eq_getElem_cons g2, cellsE]
theorem cellsE_end (cs : List Co) (r : List Cl) : cellsE (cs.drop r.length) (r.drop r.length) = 0 := by
 rw [List.drop_length]
 cases cs.drop r.length <;> rfl
set_option maxRecDepth 100000 in
set_option maxHeartbeats 1000000 in
theorem rowfirst_any (g : Nat) (A : Option Addr) (n c : Nat) (cs : List Co) (B : Option Addr) (d : Nat) (r : List Cl) (w : World) (hg : w.cell? ⟨g, 0, none⟩ = some (.slice A n c)) (hgl : g < w.heap.size) (hr : Reads w w.heap.size 7 A n (cos cs)) (hr2 : Reads w w.heap.size 3 B n (cls r)) (hm : n ≤ maxLen) (hT : Tabs w) :
  Calls Tryz.prog 159 #[.slice B n d, .func (.func 160) #[] #[.pointer (some ⟨g, 0, none⟩)]] w fun e w' => e = .returned (.int .i64 (cellsE cs r)) ∧ Below w.heap.size w w' := by
 have HT := Lib.hid hT
 have Hr := Lib.hid hr
 have Hr2 := Lib.hid hr2
 have HG := Lib.hid hg
 have Hlc := Lib.hid (cos_len hr)
 have Hlr := Lib.hid (cls_len hr2)
 have hm63 : n ≤ 9223372036854775807 := by simp only [maxLen] at hm; omega
 clear hT hr hr2 hg hm
 go_enter Tryz.func159, Tryz.ntmps159
 go_wp2
 go_loopw [10] (fun i wr => ∃ k : Nat, k ≤ n ∧ i = .int .i64 (k : Int) ∧ Hid (cellsE cs r = cellsE (cs.drop k) (r.drop k)) ∧ Hid (Below w.heap.size w wr)) (fun i _ => n - (intOf i).toNat)
 case atStart => exact ⟨0, Nat.zero_le _, rfl, Lib.hid rfl, Lib.hid (Below.refl _ _)⟩
 case round =>
  obtain ⟨k, hk, rfl, HE, HB⟩ := hrel
  by_cases hlt : k < n
  ·obtain ⟨ad, u, x, s, rfl, hbk, hx, h0, h1, h2⟩ := cls_at (Hr2.out.below HB.out) hlt
   have hkc : k < cs.length := by rw [Hlc.out]; omega
   have hco := List.getElem?_eq_getElem hkc
   have HD := Lib.hid (cellsE_drop cs r k cs[k] (u, x, s) hco hx)
   have Hco := Lib.hid hco
   have hb1 := bal HB.out (.cells #[.bool u, .int .i64 x, .string s] 23)
   have HB1 := Lib.hid hb1
   generalize cs[k] = co at HD Hco
   clear hx hbk hco hb1
   go_wp2_with fail
   with_reducible refine (rowc1_any g A n c cs k u x s co _ ((HB1.out.cell (p := ⟨g, 0, none⟩) hgl).trans HG.out) (Nat.lt_of_lt_of_le hgl HB1.out.size) (Hr.out.on HB1.out) hlt Hco.out (HT.out.on HB1.out)).mono ?_
   rintro e w1 ⟨rfl, hb1⟩
   have HB2 := Lib.hid (bon HB1.out hb1)
   clear hb1
   by_cases hz : checkE co.2.2.1 co.2.2.2.1 (u, x, s) = 0
   ·have HE2 := Lib.hid (show cellsE cs r = cellsE (cs.drop (k + 1)) (r.drop (k + 1)) by rw [HE.out, HD.out, if_pos hz])
    generalize checkE co.2.2.1 co.2.2.2.1 (u, x, s) = E0 at hz ⊢
    subst hz
    go_wp2
    go_roundw
    case rel => exact ⟨k + 1, by omega, by go_num, HE2, HB2⟩
    case measure => simp [intOf]; omega
   ·have HE2 := Lib.hid (show checkE co.2.2.1 co.2.2.2.1 (u, x, s) = cellsE cs r by rw [HE.out, HD.out, if_neg hz])
    rw [HE2.out] at hz ⊢
    have hzb : (cellsE cs r != 0) = true := by simpa using hz
    clear hz
    go_wp2
    go_ret
    exact ⟨rfl, HB2.out⟩
  ·obtain rfl : k = n := by omega
   have HE2 := Lib.hid (show cellsE cs r = 0 by rw [HE.out]; have := cellsE_end cs r; rw [Hlr.out] at this; exact this)
   go_wp2
   go_ret
   rw [HE2.out]
   exact ⟨rfl, HB.out⟩
set_option maxRecDepth 100000 in
theorem prow_any (A : Option Addr) (n c : Nat) (cs : List Co) (B : Option Addr) (m d : Nat) (r : List Cl) (w : World) (hr : Reads w w.heap.size 7 A n (cos cs)) (hr2 : Reads w w.heap.size 3 B m (cls r)) (hm : m ≤ maxLen) (hT : Tabs w) :
  Calls Tryz.prog 102 #[.slice A n c, .slice B m d] w fun e w' => e = .returned (.int .i64 (rowE cs r)) ∧ Below w.heap.size w w' := by
 have hlc := cos_len hr
 have hlr := cls_len hr2
 have HT := Lib.hid hT
 have Hr := Lib.hid hr
 have Hr2 := Lib.hid hr2
 have Hb := Lib.hid (bal (Below.refl w.heap.size w) (.cells #[.slice A n c] 32))
 have HK := Lib.hid ((Blk.new w 32 #[.slice A n c]).cell 0)
 clear hr hr2 hT
 by_cases hmn : m = n
 ·have HE := Lib.hid (show rowE cs r = cellsE cs r by unfold rowE; rw [if_pos (by omega)])
  subst hmn
  have db : ((m : Int) != (m : Int)) = false := by simp
  clear hlc hlr
  go_enter Tryz.func102, Tryz.ntmps102
  go_wp2_with fail
  with_reducible refine (rowfirst_any w.heap.size A m c cs B d r _ HK.out (by simp) (Hr.out.on Hb.out) (Hr2.out.on Hb.out) hm (HT.out.on Hb.out)).mono ?_
  rintro e w1 ⟨rfl, hb1⟩
  have HB := Lib.hid (bon Hb.out hb1)
  clear hb1
  go_wp2
  go_ret
  rw [HE.out]
  exact ⟨rfl, HB.out⟩
 ·have HE := Lib.hid (show rowE cs r = 100 by unfold rowE; rw [if_neg (by omega)])
  have db : ((n : Int) != (m : Int)) = true := by simp; omega
  clear hlc hlr
  go_enter Tryz.func102, Tryz.ntmps102
  go_wp2
  go_ret
  rw [HE.out]
  exact ⟨rfl, Hb.out⟩
end Go.Proofs.YtjpjalmilfgckaaGreatDoor
namespace Go.Proofs.YtjpjalmilfgckaaGreatDoor
open Go.RowKit
def oddC (c : Co) : Bool := !mayK c.2.2.1
set_option maxRecDepth 100000 in
theorem mayodd_any (i : Int) (nm : ByteArray) (k : Int) (nl u : Bool) (x : Int) (s : ByteArray) (w : World) :
  Calls Tryz.prog 152 #[.agg #[.int .i64 i, .string nm, .int .i64 k, .bool nl, .bool u, .int .i64 x, .string s]] w fun e w' => e = .returned (.bool (!mayK k)) ∧ Below w.heap.size w w' := by
 have B1 := Lib.hid (Blk.new w 45 #[.int .i64 i, .string nm, .int .i64 k, .bool nl, .bool u, .int .i64 x, .string s])
 have c2 := B1.out.cell 2
 have c3 := B1.out.cell 3
 go_enter Tryz.func152, Tryz.ntmps152
 go_wp2_with fail
 with_reducible refine (may_any k nl _).mono ?_
 rintro e w1 ⟨rfl, hb1⟩
 have HB := Lib.hid (bon ((Below.refl _ w).alloc (Nat.le_refl _) (.cells #[.int .i64 i, .string nm, .int .i64 k, .bool nl, .bool u, .int .i64 x, .string s] 45)) hb1)
 clear hb1 c2 c3
 go_wp2
 go_ret
 exact ⟨rfl, HB.out⟩
set_option maxRecDepth 100000 in
set_option maxHeartbeats 1000000 in
theorem oddidx_any (A : Option Addr) (n c : Nat) (cs : List Co) (w : World) (hr : Reads w w.heap.size 7 A n (cos cs)) (hn : n ≤ maxLen) :
  Calls Tryz.prog 193 #[.slice A n c, .func (.func 152) #[] #[]] w fun e w' => (∃ r : Int, e = .returned (.int .i64 r) ∧ decide (0 ≤ r) = cs.any oddC) ∧ Below w.heap.size w w' := by
 have Hr := Lib.hid hr
 have Hl := Lib.hid (cos_len hr)
 have hn63 : n ≤ 9223372036854775807 := by simp only [maxLen] at hn; omega
 have hin := callFunc_in Tryz.func152 (by kernel_rfl) (by kernel_rfl)
 clear hr hn
 go_enter Tryz.func193, Tryz.ntmps193
 go_wp2
 go_loopw [8] (fun i wr => ∃ k : Nat, k ≤ n ∧ i = .int .i64 (k : Int) ∧ Hid (∀ j c, j < k → cs[j]? = some c → oddC c = false) ∧ Hid (Below w.heap.size w wr)) (fun i _ => n - (intOf i).toNat)
 case atStart => exact ⟨0, Nat.zero_le _, rfl, Lib.hid (fun j c h => by omega), Lib.hid (Below.refl _ _)⟩
 case round =>
  obtain ⟨k, hk, rfl, HN, HB⟩ := hrel
  by_cases hlt : k < n
  ·obtain ⟨ad, co, rfl, hbk, hco, hat⟩ := cos_at (Hr.out.below HB.out) hlt
   have h0 := hat.c0
   have h1 := hat.c1
   have h2 := hat.c2
   have h3 := hat.c3
   have h4 := hat.c4
   have h5 := hat.c5
   have h6 := hat.c6
   have Hco := Lib.hid hco
   have hki : (k : Int) < (n : Int) := by omega
   clear hco hat
   go_wp2_with fail
   with_reducible refine (mayodd_any co.1 co.2.1 co.2.2.1 co.2.2.2.1 co.2.2.2.2.1 co.2.2.2.2.2.1 co.2.2.2.2.2.2 _).mono ?_
   rintro e w1 ⟨rfl, hb1⟩
   have HB2 := Lib.hid (bon HB.out hb1)
   clear hb1 h0 h1 h2 h3 h4 h5 h6 hbk
   cases hm : mayK co.2.2.1 with
   | true =>
    have HN2 := Lib.hid (show ∀ j c, j < k + 1 → cs[j]? = some c → oddC c = false from fun j c hj hc => by
     rcases Nat.lt_or_ge j k with h | h
     ·exact HN.out j c h hc
     ·obtain rfl : j = k := by omega
      rw [Hco.out] at hc
      cases hc
      simp [oddC, hm])
    clear hm
    go_wp2
    go_roundw
    case rel => exact ⟨k + 1, by omega, by go_num, HN2, HB2⟩
    case measure => simp [intOf]; omega
   | false =>
    have HE := Lib.hid (show decide (0 ≤ (k : Int)) = cs.any oddC by
     have h1 : cs.any oddC = true := List.any_eq_true.2 ⟨co, List.mem_of_getElem? Hco.out, by simp [oddC, hm]⟩
     rw [h1]
     simp)
    clear hm
    go_wp2
    go_ret
    exact ⟨⟨_, rfl, HE.out⟩, HB2.out⟩
  ·obtain rfl : k = n := by omega
   have HE := Lib.hid (show decide (0 ≤ (-1 : Int)) = cs.any oddC by
    have h1 : cs.any oddC = false := by
     rw [List.any_eq_false]
     intro c hc
     obtain ⟨j, hj⟩ := List.getElem?_of_mem hc
     have := HN.out j c (by have := (List.getElem?_eq_some_iff.1 hj).1; rw [Hl.out] at this; exact this) hj
     simp [this]
    rw [h1]
    rfl)
   go_wp2
   go_ret
   exact ⟨⟨_, rfl, HE.out⟩, HB.out⟩
set_option maxRecDepth 100000 in
theorem oddin_any (A : Option Addr) (n c : Nat) (cs : List Co) (w : World) (hr : Reads w w.heap.size 7 A n (cos cs)) (hn : n ≤ maxLen) :
  Calls Tryz.prog 153 #[.slice A n c, .func (.func 152) #[] #[]] w fun e w' => e = .returned (.bool (cs.any oddC)) ∧ Below w.heap.size w w' := by
 go_enter Tryz.func153, Tryz.ntmps153
 go_wp2_with fail
 with_reducible refine (oddidx_any A n c cs w hr hn).mono ?_
 rintro e w1 ⟨⟨r, rfl, he⟩, hb1⟩
 have HB := Lib.hid hb1
 have HE := Lib.hid he
 clear hb1 he hr hn
 go_wp2
 go_ret
 exact ⟨by rw [← HE.out]; rfl, HB.out⟩
theorem mayCs_eq (cs : List Co) : mayCs cs = (decide (1 ≤ cs.length ∧ cs.length ≤ 32) && !(cs.any oddC)) := by
 unfold mayCs
 congr 1
 rw [List.not_any_eq_all_not]
 congr 1
 funext c
 simp [oddC]
set_option maxRecDepth 100000 in
theorem bmay_any (A : Option Addr) (n c : Nat) (cs : List Co) (w : World) (hr : Reads w w.heap.size 7 A n (cos cs)) (hn : n ≤ maxLen) :
  Calls Tryz.prog 96 #[.slice A n c] w fun e w' => e = .returned (.bool (mayCs cs)) ∧ Below w.heap.size w w' := by
 have hl := cos_len hr
 have hE := mayCs_eq cs
 rw [hl] at hE
 have HE := Lib.hid hE
 clear hE
 by_cases h1 : 1 ≤ n
 ·by_cases h2 : n ≤ 32
  ·have d1 : decide ((1 : Int) ≤ (n : Int)) = true := by simp; omega
   have d2 : decide ((n : Int) ≤ 32) = true := by simp; omega
   have HE := Lib.hid (show mayCs cs = !(cs.any oddC) by rw [HE.out]; simp [h1, h2])
   clear hl
   go_enter Tryz.func96, Tryz.ntmps96
   go_wp2_with fail
   with_reducible refine (oddin_any A n c cs w hr hn).mono ?_
   rintro e w1 ⟨rfl, hb1⟩
   have HB := Lib.hid hb1
   clear hb1 hr
   go_wp2
   go_ret
   exact ⟨by rw [HE.out]; rfl, HB.out⟩
  ·have d1 : decide ((1 : Int) ≤ (n : Int)) = true := by simp; omega
   have d2 : decide ((n : Int) ≤ 32) = false := by simp; omega
   have HE := Lib.hid (show mayCs cs = false by rw [HE.out]; simp [h2])
   clear hl hr
   go_enter Tryz.func96, Tryz.ntmps96
   go_wp2
   go_ret
   exact ⟨by rw [HE.out]; rfl, Below.refl _ _⟩
 ·have d1 : decide ((1 : Int) ≤ (n : Int)) = false := by simp; omega
  have HE := Lib.hid (show mayCs cs = false by rw [HE.out]; simp [h1])
  clear hl hr
  go_enter Tryz.func96, Tryz.ntmps96
  go_wp2
  go_ret
  exact ⟨by rw [HE.out]; rfl, Below.refl _ _⟩
theorem itemsE_drop (cs : List Co) (l : List It) (k : Nat) (it : It) (h : l[k]? = some it) :
  itemsE cs (l.drop k) = if rowE cs it.1 = 0 then (if it.2 = 0 then 172 else itemsE cs (l.drop (k + 1))) else rowE cs it.1 := by
 obtain ⟨g, rfl⟩ := List.getElem?_eq_some_iff.1 h
 rw [List.drop_eq_getElem_cons g, itemsE]
set_option maxRecDepth 100000 in
set_option maxHeartbeats 2000000 in
theorem bcheck_any (A : Option Addr) (n c : Nat) (cs : List Co) (v s : Int) (I : Option Addr) (m d : Nat) (l : List It) (w : World) (hr : Reads w w.heap.size 7 A n (cos cs)) (hn : n ≤ maxLen) (hi : ItemsAt w w.heap.size I m l) (hm : m ≤ maxLen) (hT : Tabs w) :
  Calls Tryz.prog 40 #[.slice A n c, .agg #[.int .i64 v, .int .i64 s, .slice I m d]] w fun e w' => e = endN (batE cs (v, s, l)) ∧ Below w.heap.size w w' := by
 have Hr := Lib.hid hr
 have Hi := Lib.hid hi
 have HT := Lib.hid hT
 have Hl := Lib.hid hi.len
 have Hn := Lib.hid hn
 have Hm := Lib.hid hm
 have hm63 : m ≤ 9223372036854775807 := by simp only [maxLen] at hm; omega
 have B1 := Lib.hid (Blk.new w 30 #[.int .i64 v, .int .i64 s, .slice I m d])
 have HB := Lib.hid ((Below.refl _ w).alloc (Nat.le_refl _) (.cells #[.int .i64 v, .int .i64 s, .slice I m d] 30))
 clear hr hi hT hn hm
 go_enter Tryz.func40, Tryz.ntmps40
 go_wp2_with fail
 with_reducible refine (bmay_any A n c cs _ (Hr.out.on HB.out) Hn.out).mono ?_
 rintro e w1 ⟨rfl, hb1⟩
 have B1 := Lib.hid (B1.out.on hb1)
 have HB := Lib.hid (bon HB.out hb1)
 clear hb1
 have c0 := B1.out.cell 0
 have c1 := B1.out.cell 1
 have c2 := B1.out.cell 2
 by_cases hb : baB cs (v, s, l) = true
 ·have hbb := hb
  unfold baB at hbb
  simp only [Bool.and_eq_true, decide_eq_true_eq] at hbb
  obtain ⟨hmay, hv0, hv1, hs0⟩ := hbb
  have HE0 := Lib.hid (show batE cs (v, s, l) = if 1048576 < l.length then 5 else itemsE cs l by unfold batE; rw [if_pos hb])
  rw [hmay]
  have d1 : decide (0 ≤ v) = true := by simpa using hv0
  have d2 : decide (v ≤ 2147483647) = true := by simpa using hv1
  have d3 : decide (0 ≤ s) = true := by simpa using hs0
  clear hmay hb
  go_wp2_with fail
  with_reducible refine (need_yes 2 _).mono ?_
  rintro e w2 ⟨rfl, rfl⟩
  by_cases hM : m ≤ 1048576
  ·have d4 : decide ((m : Int) ≤ 1048576) = true := by simp; omega
   have HE0 := Lib.hid (show batE cs (v, s, l) = itemsE cs l by rw [HE0.out, if_neg (by rw [Hl.out]; omega)])
   clear d1 d2 d3 hv0 hv1 hs0
   go_wp2_with fail
   with_reducible refine (need_yes 5 _).mono ?_
   rintro e w2 ⟨rfl, rfl⟩
   go_wp2
   go_loopw [32] (fun i wr => ∃ k : Nat, k ≤ m ∧ i = .int .i64 (k : Int) ∧ Hid (itemsE cs l = itemsE cs (l.drop k)) ∧ Hid (Below w.heap.size w wr)) (fun i _ => m - (intOf i).toNat)
   case atStart => exact ⟨0, Nat.zero_le _, rfl, Lib.hid rfl, HB⟩
   case round =>
    obtain ⟨k, hk, rfl, HE, HL⟩ := hrel
    by_cases hlt : k < m
    ·obtain ⟨ad, A', c', it, rfl, hbk, hit, h0, h1, hrow, hc1, hc2⟩ := (Hi.out.below HL.out).at_ hlt
     have HD := Lib.hid (itemsE_drop cs l k it hit)
     have HB1 := Lib.hid (bal HL.out (.cells #[.slice A' it.1.length c', .int .i64 it.2] 26))
     have BI := Lib.hid (Blk.new wr 26 #[.slice A' it.1.length c', .int .i64 it.2])
     have Hrow := Lib.hid ((hrow.more HL.out.size).al (.cells #[.slice A' it.1.length c', .int .i64 it.2] 26))
     have Hc := Lib.hid (Nat.le_trans hc1 hc2)
     have hki : (k : Int) < (m : Int) := by omega
     clear hit hrow hc1 hc2 c0 c1 c2
     generalize hrl : it.1.length = rl at *
     have Hrl := Lib.hid hrl
     clear hrl
     go_wp2_with fail
     with_reducible refine (prow_any A n c cs A' rl c' it.1 _ (Hr.out.on HB1.out) Hrow.out Hc.out (HT.out.on HB1.out)).mono ?_
     rintro e w3 ⟨rfl, hb3⟩
     have HB3 := Lib.hid (bon HB1.out hb3)
     have BI := Lib.hid (BI.out.on hb3)
     clear hb3 h0 h1 hbk
     by_cases hz : rowE cs it.1 = 0
     ·have HD := Lib.hid (show itemsE cs (l.drop k) = if it.2 = 0 then 172 else itemsE cs (l.drop (k + 1)) by rw [HD.out, if_pos hz])
      generalize rowE cs it.1 = E0 at hz ⊢
      subst hz
      go_wp2_with fail
      with_reducible refine (must_yes _).mono ?_
      rintro e w4 ⟨rfl, rfl⟩
      have c1 := BI.out.cell 1
      by_cases hw0 : it.2 = 0
      ·have HX := Lib.hid (show batE cs (v, s, l) = 172 by rw [HE0.out, HE.out, HD.out, if_pos hw0])
       generalize it.2 = W0 at *
       subst hw0
       go_wp2_with fail
       with_reducible refine (need_no 172 _).mono ?_
       rintro e w5 ⟨rfl, rfl⟩
       go_wp2
       refine ⟨rfl, ?_, HB3.out⟩
       rw [HX.out]
       exact (endN_not (by decide)).symm
      ·have HX := Lib.hid (show itemsE cs l = itemsE cs (l.drop (k + 1)) by rw [HE.out, HD.out, if_neg hw0])
       have dw : (it.2 != 0) = true := by simpa using hw0
       generalize it.2 = W0 at *
       clear hw0
       go_wp2_with fail
       with_reducible refine (need_yes 172 _).mono ?_
       rintro e w5 ⟨rfl, rfl⟩
       go_wp2
       go_roundw
       case rel => exact ⟨k + 1, by omega, by go_num, HX, HB3⟩
       case measure => simp [intOf]; omega
     ·have HX := Lib.hid (show rowE cs it.1 = batE cs (v, s, l) by rw [HE0.out, HE.out, HD.out, if_neg hz])
      rw [HX.out] at hz ⊢
      have Hz := Lib.hid hz
      clear hz
      go_wp2_with fail
      with_reducible refine (must_no (batE cs (v, s, l)) Hz.out _).mono ?_
      rintro e w4 ⟨rfl, rfl⟩
      go_wp2
      exact ⟨rfl, (endN_not Hz.out).symm, HB3.out⟩
    ·obtain rfl : k = m := by omega
     have HE1 := Lib.hid (show batE cs (v, s, l) = 0 by rw [HE0.out, HE.out, List.drop_of_length_le (by rw [Hl.out]; exact Nat.le_refl _)]; rfl)
     go_wp2
     go_end0
     exact ⟨by rw [HE1.out]; rfl, HL.out⟩
  ·have d4 : decide ((m : Int) ≤ 1048576) = false := by simp; omega
   have HE1 := Lib.hid (show batE cs (v, s, l) = 5 by rw [HE0.out, if_pos (by rw [Hl.out]; omega)])
   clear d1 d2 d3 hv0 hv1 hs0
   go_wp2_with fail
   with_reducible refine (need_no 5 _).mono ?_
   rintro e w2 ⟨rfl, rfl⟩
   go_wp2
   refine ⟨rfl, ?_, HB.out⟩
   rw [HE1.out]
   exact (endN_not (by decide)).symm
 ·have HE1 := Lib.hid (show batE cs (v, s, l) = 2 by unfold batE; rw [if_neg hb])
  have fin : ∀ w', Below w.heap.size w w' → (thr 2 = endN (batE cs (v, s, l)) ∧ Below w.heap.size w w') := fun w' h => ⟨by rw [HE1.out]; exact (endN_not (by decide)).symm, h⟩
  have Hfin := Lib.hid fin
  unfold baB at hb
  simp only [Bool.and_eq_true, decide_eq_true_eq] at hb
  clear fin
  cases hmay : mayCs cs with
  | false =>
   clear hb hmay
   go_wp2_with fail
   with_reducible refine (need_no 2 _).mono ?_
   rintro e w2 ⟨rfl, rfl⟩
   go_wp2
   exact ⟨rfl, Hfin.out _ HB.out⟩
  | true =>
   by_cases hv0 : 0 ≤ v
   ·have d1 : decide (0 ≤ v) = true := by simpa using hv0
    by_cases hv1 : v ≤ 2147483647
    ·have d2 : decide (v ≤ 2147483647) = true := by simpa using hv1
     have hs0 : ¬ 0 ≤ s := fun h => hb ⟨hmay, hv0, hv1, h⟩
     have d3 : decide (0 ≤ s) = false := by simpa using hs0
     clear hb hmay hv0 hv1 hs0
     go_wp2_with fail
     with_reducible refine (need_no 2 _).mono ?_
     rintro e w2 ⟨rfl, rfl⟩
     go_wp2
     exact ⟨rfl, Hfin.out _ HB.out⟩
    ·have d2 : decide (v ≤ 2147483647) = false := by simpa using hv1
     clear hb hmay hv0 hv1
     go_wp2_with fail
     with_reducible refine (need_no 2 _).mono ?_
     rintro e w2 ⟨rfl, rfl⟩
     go_wp2
     exact ⟨rfl, Hfin.out _ HB.out⟩
   ·have d1 : decide (0 ≤ v) = false := by simpa using hv0
    clear hb hmay hv0
    go_wp2_with fail
    with_reducible refine (need_no 2 _).mono ?_
    rintro e w2 ⟨rfl, rfl⟩
    go_wp2
    exact ⟨rfl, Hfin.out _ HB.out⟩
end Go.Proofs.YtjpjalmilfgckaaGreatDoor
namespace Go.Proofs.YtjpjalmilfgckaaGreatDoor
open Go.RowKit
theorem item_info : (Tryz.prog.info? 26).map (fun i => (i.zero, i.size, i.bytes)) = some (some (.agg #[.slice none 0 0, .int .i64 0]), 2, 32) := by kernel_rfl
def RowsOwn (w : World) (base : Nat) (hs : List Hd) (l : List It) : Prop := hs.length = l.length ∧ ∀ (j : Nat) h it, hs[j]? = some h → l[j]? = some it → w.ownsRow base 23 3 (.slice h.1 h.2.1 h.2.2) h.2.1 (cls it.1)
def ItemsOwn (w : World) (base : Nat) (A : Option Addr) (n c : Nat) (l : List It) : Prop := ∃ hs, w.ownsRow base 26 2 (.slice A n c) n (its hs l) ∧ RowsOwn w base hs l
section
variable {w w' : World} {base n c : Nat} {A : Option Addr} {hs : List Hd} {l : List It}
theorem RowsOwn.nil : RowsOwn w base [] [] := ⟨rfl, fun j g it h => by simp at h⟩
theorem RowsOwn.below (h : RowsOwn w base hs l) (hb : Below w.heap.size w w') : RowsOwn w' base hs l := ⟨h.1, fun j g it h1 h2 => own_below (h.2 j g it h1 h2) hb⟩
theorem RowsOwn.apart (h : RowsOwn w base hs l) {base2 n2 size2 : Nat} {e2 : TypeId} {v2 : Value} {ys : List Value} (h2 : w.ownsRow base2 e2 size2 v2 n2 ys) (hne : 23 ≠ e2) (hg : w.grownBy w' v2.ownBlock) : RowsOwn w' base hs l :=
 ⟨h.1, fun j g it h1 h3 => own_apart (h.2 j g it h1 h3) h2 hne hg⟩
theorem RowsOwn.far (h : RowsOwn w base hs l) {g : Nat} {t : TypeId} {cs : Array Value} (hb : Blk w g t cs) (hne : 23 ≠ t) (i : Nat) (u : Value) : RowsOwn (w.setCell ⟨g, i, none⟩ u) base hs l :=
 ⟨h.1, fun j k it h1 h3 => own_far (h.2 j k it h1 h3) hb hne i u⟩
theorem RowsOwn.snoc {h : Hd} {it : It} (h0 : RowsOwn w base hs l) (h1 : w.ownsRow base 23 3 (.slice h.1 h.2.1 h.2.2) h.2.1 (cls it.1)) : RowsOwn w base (hs ++ [h]) (l ++ [it]) := by
 refine ⟨by simp [h0.1], fun j g jt g1 g2 => ?_⟩
 rcases Nat.lt_or_ge j hs.length with hj | hj
 ·rw [List.getElem?_append_left hj] at g1
  rw [List.getElem?_append_left (by rw [← h0.1]; exact hj)] at g2
  exact h0.2 j g jt g1 g2
 ·rw [List.getElem?_append_right hj] at g1
  rw [List.getElem?_append_right (by rw [← h0.1]; exact hj), ← h0.1] at g2
  have h4 : j - hs.length = 0 := by have := (List.getElem?_eq_some_iff.1 g1).1; simp at this; omega
  rw [h4] at g1 g2
  simp only [List.getElem?_cons_zero, Option.some.injEq] at g1 g2
  subst g1 g2
  exact h1
theorem own_caps2 {base size : Nat} {e : TypeId} {xs : List Value} (h : w.ownsRow base e size (.slice A n c) n xs) : n ≤ c ∧ c ≤ maxLen := by
 obtain ⟨A', c', e, h1, h2⟩ := own_shape h
 cases e
 exact ⟨h1, h2⟩
theorem RowsOwn.at_ (h : RowsOwn w base hs l) : RowsAt w w.heap.size hs l := ⟨h.1, fun j g it h1 h2 => ⟨Reads.of_own (h.2 j g it h1 h2), own_caps2 (h.2 j g it h1 h2)⟩⟩
theorem ItemsOwn.at_ (h : ItemsOwn w base A n c l) : ItemsAt w w.heap.size A n l := by
 obtain ⟨hs, h1, h2⟩ := h
 exact ⟨hs, Reads.of_own h1, h2.at_⟩
theorem ItemsOwn.caps (h : ItemsOwn w base A n c l) : n ≤ c ∧ c ≤ maxLen := by
 obtain ⟨hs, h1, -⟩ := h
 exact own_caps2 h1
theorem ItemsOwn.len (h : ItemsOwn w base A n c l) : l.length = n := h.at_.len
theorem ItemsOwn.nil : ItemsOwn w base none 0 0 [] := ⟨[], World.ownsRow_nil _ _ _ _, RowsOwn.nil⟩
theorem ItemsOwn.below (h : ItemsOwn w base A n c l) (hb : Below w.heap.size w w') : ItemsOwn w' base A n c l := by
 obtain ⟨hs, h1, h2⟩ := h
 exact ⟨hs, own_below h1 hb, h2.below hb⟩
theorem ItemsOwn.al (h : ItemsOwn w base A n c l) (o : Obj) : ItemsOwn (w.alloc o) base A n c l := h.below ((Below.refl _ _).alloc (Nat.le_refl _) o)
theorem ItemsOwn.drew (h : ItemsOwn w base A n c l) : ItemsOwn w.drew base A n c l := h.below (Below.refl _ _).drew
theorem ItemsOwn.far (h : ItemsOwn w base A n c l) {g : Nat} {t : TypeId} {cs : Array Value} (hb : Blk w g t cs) (h1 : 23 ≠ t) (h2 : 26 ≠ t) (i : Nat) (u : Value) : ItemsOwn (w.setCell ⟨g, i, none⟩ u) base A n c l := by
 obtain ⟨hs, g1, g2⟩ := h
 exact ⟨hs, own_far g1 hb h2 i u, g2.far hb h1 i u⟩
theorem ItemsOwn.app (h : ItemsOwn w base A n c l) {hd : Hd} {it : It} (hr : w.ownsRow base 23 3 (.slice hd.1 hd.2.1 hd.2.2) hd.2.1 (cls it.1)) (hg : w.grownBy w' (Value.slice A n c).ownBlock) {A2 : Option Addr} {n2 c2 : Nat}
  (ho : ∀ hs : List Hd, w.ownsRow base 26 2 (.slice A n c) n (its hs l) → w'.ownsRow base 26 2 (.slice A2 n2 c2) n2 (its hs l ++ itV hd it)) : ItemsOwn w' base A2 n2 c2 (l ++ [it]) := by
 obtain ⟨hs, h1, h2⟩ := h
 have h3 := ho hs h1
 rw [← its_snoc h2.1] at h3
 exact ⟨hs ++ [hd], h3, (h2.apart h1 (by decide) hg).snoc (own_apart hr h1 (by decide) hg)⟩
theorem items_app {hd : Hd} {it : It} {A2 : Option Addr} {n2 c2 : Nat} (h1 : w.ownsRow base 26 2 (.slice A n c) n (its hs l)) (h2 : RowsOwn w base hs l) (hr : w.ownsRow base 23 3 (.slice hd.1 hd.2.1 hd.2.2) hd.2.1 (cls it.1)) (hg : w.grownBy w' (Value.slice A n c).ownBlock)
  (h3 : w'.ownsRow base 26 2 (.slice A2 n2 c2) n2 (its hs l ++ itV hd it)) : ItemsOwn w' base A2 n2 c2 (l ++ [it]) := by
 rw [← its_snoc h2.1] at h3
 exact ⟨hs ++ [hd], h3, (h2.apart h1 (by decide) hg).snoc (own_apart hr h1 (by decide) hg)⟩
theorem ItemsOwn.row (h : ItemsOwn w base A n c l) {B n2 : Nat} {v2 : Value} {ys : List Value} (hB : ∀ hs, w.ownsRow base 26 2 (.slice A n c) n (its hs l) → RowsOwn w base hs l → ∀ (j : Nat) (q : Hd), hs[j]? = some q → ∀ k, (Value.slice q.1 q.2.1 q.2.2).ownBlock = some k → k < B)
  (h2 : w.ownsRow B 23 3 v2 n2 ys) (hg : w.grownBy w' v2.ownBlock) : ItemsOwn w' base A n c l := by
 obtain ⟨hs, g1, g2⟩ := h
 refine ⟨hs, own_apart g1 h2 (by decide) hg, g2.1, fun j q it h3 h4 => own_sep (g2.2 j q it h3 h4) (hB hs g1 g2 j q h3) h2 hg⟩
end
def ItemsLow (w : World) (base B : Nat) (A : Option Addr) (n c : Nat) (l : List It) : Prop := ∃ hs, w.ownsRow base 26 2 (.slice A n c) n (its hs l) ∧ RowsOwn w base hs l ∧ ∀ (j : Nat) (q : Hd), hs[j]? = some q → ∀ k, (Value.slice q.1 q.2.1 q.2.2).ownBlock = some k → k < B
section
variable {w w' : World} {base B n c : Nat} {A : Option Addr} {l : List It}
theorem ItemsOwn.low (h : ItemsOwn w base A n c l) (hB : w.heap.size ≤ B) : ItemsLow w base B A n c l := by
 obtain ⟨hs, g1, g2⟩ := h
 refine ⟨hs, g1, g2, fun j q hq k hk => ?_⟩
 have hj : j < l.length := by rw [← g2.1]; exact (List.getElem?_eq_some_iff.1 hq).1
 exact Nat.lt_of_lt_of_le ((g2.2 j q _ hq (List.getElem?_eq_getElem hj)).lt k hk).2 hB
theorem ItemsLow.own (h : ItemsLow w base B A n c l) : ItemsOwn w base A n c l := by
 obtain ⟨hs, g1, g2, -⟩ := h
 exact ⟨hs, g1, g2⟩
theorem ItemsLow.below (h : ItemsLow w base B A n c l) (hb : Below w.heap.size w w') : ItemsLow w' base B A n c l := by
 obtain ⟨hs, g1, g2, g3⟩ := h
 exact ⟨hs, own_below g1 hb, g2.below hb, g3⟩
theorem ItemsLow.al (h : ItemsLow w base B A n c l) (o : Obj) : ItemsLow (w.alloc o) base B A n c l := h.below ((Below.refl _ _).alloc (Nat.le_refl _) o)
theorem ItemsLow.drew (h : ItemsLow w base B A n c l) : ItemsLow w.drew base B A n c l := h.below (Below.refl _ _).drew
theorem ItemsLow.far (h : ItemsLow w base B A n c l) {g : Nat} {t : TypeId} {cs : Array Value} (hb : Blk w g t cs) (h1 : 23 ≠ t) (h2 : 26 ≠ t) (i : Nat) (u : Value) : ItemsLow (w.setCell ⟨g, i, none⟩ u) base B A n c l := by
 obtain ⟨hs, g1, g2, g3⟩ := h
 exact ⟨hs, own_far g1 hb h2 i u, g2.far hb h1 i u, g3⟩
theorem ItemsLow.row (h : ItemsLow w base B A n c l) {n2 : Nat} {v2 : Value} {ys : List Value} (h2 : w.ownsRow B 23 3 v2 n2 ys) (hg : w.grownBy w' v2.ownBlock) : ItemsLow w' base B A n c l := by
 obtain ⟨hs, g1, g2, g3⟩ := h
 exact ⟨hs, own_apart g1 h2 (by decide) hg, ⟨g2.1, fun j q it h3 h4 => own_sep (g2.2 j q it h3 h4) (g3 j q h3) h2 hg⟩, g3⟩
end
theorem itV_one (h : Hd) (it : It) : ∀ u ∈ itV h it, u.oneCell' = true := by
 intro u hu
 simp [itV] at hu
 rcases hu with rfl | rfl <;> rfl
theorem reads_item (w : World) (b : Nat) (hb : b = w.heap.size) (h : Hd) (it : It) : Reads (w.alloc (.cells #[.slice h.1 h.2.1 h.2.2, .int .i64 it.2] 26)) (w.alloc (.cells #[.slice h.1 h.2.1 h.2.2, .int .i64 it.2] 26)).heap.size 2 (some ⟨b, 0, none⟩) 1 (itV h it) := by
 subst hb
 have hB := Blk.new w 26 #[.slice h.1 h.2.1 h.2.2, .int .i64 it.2]
 refine ⟨rfl, fun _ => ⟨_, rfl, hB.lt, fun j u hu => ?_⟩⟩
 have hadd : (⟨w.heap.size, 0, none⟩ : Addr).add j = ⟨w.heap.size, j, none⟩ := by unfold Addr.add; split <;> simp_all
 rw [hadd, hB.cell, ← Array.getElem?_toList]
 exact hu
end Go.Proofs.YtjpjalmilfgckaaGreatDoor
