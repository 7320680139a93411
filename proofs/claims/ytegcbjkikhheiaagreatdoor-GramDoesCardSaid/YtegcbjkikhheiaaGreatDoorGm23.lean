/- Part 23 of the walks, merged: each text under its own heading. Conditions: none of its own; each lemma states what it asks. -/
import Derived.Test.YtegcbjkikhheiaaGreatDoorGm22
set_option linter.unusedVariables false
set_option linter.unusedSimpArgs false
namespace Go.Proofs.YtegcbjkikhheiaaGreatDoor
open Go.RowKit
theorem sizeV_ok {cs : List Co} {b : Ba} (h : batE cs b = 0) : sizeV cs b = ((encA cs b).length : Int) := by unfold sizeV; rw [if_pos h]
theorem sizeV_no {cs : List Co} {b : Ba} (h : batE cs b ≠ 0) : sizeV cs b = 0 := by unfold sizeV; rw [if_neg h]
theorem whereV_ok {cs : List Co} {b : Ba} (h : batE cs b = 0) (xs : List UInt8) : whereV cs b xs = ((lcp (encA cs b) xs : Nat) : Int) := by unfold whereV; rw [if_pos h]
theorem whereV_no {cs : List Co} {b : Ba} (h : batE cs b ≠ 0) (xs : List UInt8) : whereV cs b xs = 0 := by unfold whereV; rw [if_neg h]
theorem matchV_ok {cs : List Co} {b : Ba} (h : batE cs b = 0) (xs : List UInt8) : matchV cs b xs = if encA cs b = xs then 0 else 4 := by unfold matchV; rw [if_pos h]
theorem matchV_no {cs : List Co} {b : Ba} (h : batE cs b ≠ 0) (xs : List UInt8) : matchV cs b xs = batE cs b := by unfold matchV; rw [if_neg h]
theorem lcp_at {a b : List UInt8} {i : Nat} (hi : i < lcp a b) : ∃ q, a[i]? = some q ∧ b[i]? = some q := by
  have h1 := lcp_le a b
  have h2 := congrArg (fun l => l[i]?) (lcp_take a b)
  simp only [List.getElem?_take, if_pos hi] at h2
  have h3 : i < a.length := by omega
  exact ⟨a[i], List.getElem?_eq_getElem h3, by rw [← h2]; exact List.getElem?_eq_getElem h3⟩
theorem lcp_end (a b : List UInt8) : lcp a b = b.length ∨ lcp a b = a.length ∨ ∃ p q, a[lcp a b]? = some p ∧ b[lcp a b]? = some q ∧ p ≠ q := by
  have h1 := lcp_le a b
  by_cases hb : lcp a b = b.length
  · exact .inl hb
  · by_cases ha : lcp a b = a.length
    · exact .inr (.inl ha)
    · have e1 : lcp a b < a.length := by omega
      have e2 : lcp a b < b.length := by omega
      exact .inr (.inr ⟨_, _, List.getElem?_eq_getElem e1, List.getElem?_eq_getElem e2, lcp_next a b _ _ (List.getElem?_eq_getElem e1) (List.getElem?_eq_getElem e2)⟩)
theorem match_self {cs : List Co} {b : Ba} (h : batE cs b = 0) : matchV cs b (encA cs b) = 0 := by rw [matchV_ok h, if_pos rfl]
theorem match_same {cs : List Co} {a b : Ba} (ha : batE cs a = 0) (hb : batE cs b = 0) (hao : BaOk a) (hbo : BaOk b) : (matchV cs b (encA cs a) == 0) = sameBa a b := by
  rw [matchV_ok hb]
  by_cases h : a = b
  · subst h
    rw [if_pos rfl, sameBa_self]
    rfl
  · rw [sameBa_not h, if_neg (fun e => h (encA_inj ((fits_iff _ _).1 ha) hao ((fits_iff _ _).1 hb) hbo e.symm))]
    rfl
theorem match_dec_err {cs : List Co} {xs : List UInt8} {er : Nat} {b : Ba} (h : decB cs xs = .error er) (hb : BaOk b) : (matchV cs b xs == 0) = false := by
  by_cases hE : batE cs b = 0
  · rw [matchV_ok hE, if_neg (fun e => by
      have := ((fits_iff _ _).1 hE).back hb
      rw [e, h] at this
      cases this)]
    rfl
  · rw [matchV_no hE]
    simpa using hE
theorem match_dec_ok {cs : List Co} {xs : List UInt8} {b c : Ba} (h : decB cs xs = .ok c) (hb : BaOk b) : matchV cs c xs = 0 ∧ (matchV cs b xs == 0) = sameBa b c := by
  obtain ⟨hf, hbo, he⟩ := decB_only h
  have hE := (fits_iff cs c).2 hf
  refine ⟨by rw [← he]; exact match_self hE, ?_⟩
  by_cases h2 : b = c
  · subst h2
    rw [sameBa_self, ← he, match_self hE]
    rfl
  · rw [sameBa_not h2]
    by_cases hEb : batE cs b = 0
    · rw [matchV_ok hEb, if_neg (fun e => by
        have := ((fits_iff _ _).1 hEb).back hb
        rw [e, h] at this
        injection this with this
        exact h2 this.symm)]
      rfl
    · rw [matchV_no hEb]
      simpa using hEb
theorem turned_v {cs : List Co} {b : Ba} (hE : batE cs b = 0) {i : Nat} {x c : UInt8} (hx : (encA cs b)[i]? = some x) (hc : c ≠ x) :
    whereV cs b ((encA cs b).set i c) = (i : Int) ∧ whereV cs b ((encA cs b).take i) = (i : Int) ∧ matchV cs b ((encA cs b).set i c) = 4 ∧ matchV cs b ((encA cs b).take i) = 4 := by
  have hi := (List.getElem?_eq_some_iff.1 hx).1
  obtain ⟨h1, h2⟩ := lcp_turned (encA cs b) i c hi (by rw [hx]; intro e; injection e with e; exact hc e.symm)
  rw [List.take_set_of_le (Nat.le_refl _)] at h2
  refine ⟨by rw [whereV_ok hE, h1], by rw [whereV_ok hE, h2], ?_, ?_⟩
  · rw [matchV_ok hE, if_neg]
    intro e
    rw [← e, lcp_self] at h1
    omega
  · rw [matchV_ok hE, if_neg]
    intro e
    have := congrArg List.length e
    rw [List.length_take] at this
    omega
theorem more_v {cs : List Co} {v s : Int} {l : List It} {i : Nat} (hi : i < l.length) : (encA cs (v, s, l.take i)).length < (encA cs (v, s, l.take (i + 1))).length := by
  rw [List.take_add_one, List.getElem?_eq_getElem hi]
  exact encA_more cs v s (l.take i) l[i]
theorem xor_ne (x : UInt8) (c : Nat) (h0 : 0 < c) (h1 : c < 256) : x ^^^ UInt8.ofNat c ≠ x := by
  intro e
  have h2 : x ^^^ (x ^^^ UInt8.ofNat c) = 0 := by rw [e]; exact UInt8.xor_self
  rw [← UInt8.xor_assoc, UInt8.xor_self, UInt8.zero_xor] at h2
  have h3 := congrArg UInt8.toNat h2
  rw [UInt8.toNat_ofNat'] at h3
  simp at h3
  omega
end Go.Proofs.YtegcbjkikhheiaaGreatDoor
namespace Go.Proofs.YtegcbjkikhheiaaGreatDoor
open Go.RowKit
theorem columns18_any (A : Option Addr) (n c : Nat) (l : List Co) (w : World) (hr : Reads w w.heap.size 7 A n (cos l)) (hn : n ≤ c) (hc : c ≤ maxLen) :
    Calls Tryz.prog 22 #[.slice A n c] w fun e w' => ∃ A' k c', e = .returned (.slice A' k c') ∧ k ≤ 40 ∧ w'.ownsRow w.heap.size 64 7 (.slice A' k c') k (cos (l.take 40)) ∧ Below w.heap.size w w' := by
  obtain ⟨mn, hmn⟩ : ∃ mn : Nat, mn = min n 40 := ⟨_, rfl⟩
  have hmi : min (n : Int) 40 = (mn : Int) := by omega
  have h1 : mn ≤ n := by omega
  have h2 : mn ≤ 40 := by omega
  have h3 : mn ≤ c := by omega
  have h4 : (mn : Int) ≤ (c : Int) := by omega
  have hc63 : c ≤ 9223372036854775807 := by simp only [maxLen] at hc; omega
  have ht := hr.head h1
  rw [cos_take] at ht
  have hE : l.take mn = l.take 40 := by
    have := cos_len hr
    rcases Nat.lt_or_ge n 40 with h | h
    · rw [List.take_of_length_le (by omega), List.take_of_length_le (by omega)]
    · rw [show mn = 40 by omega]
  rw [hE] at ht
  have HK := Lib.hid (copyCols_any A mn c (l.take 40) w ht (by omega))
  clear hmn hr ht hE
  go_enter Tryz.func22, Tryz.ntmps22
  go_wp2_with fail
  with_reducible refine HK.out.mono ?_
  rintro e w1 ⟨A', c', rfl, -, -, q3, q4⟩
  have HO := Lib.hid q3
  have HB := Lib.hid q4
  clear q3 q4
  go_wp2
  go_ret
  exact ⟨A', mn, c', rfl, h2, HO.out, HB.out⟩
theorem bytes18_any (A : Option Addr) (n c : Nat) (l : List UInt8) (w : World) (hr : Reads w w.heap.size 1 A n (u8s l)) (hn : n ≤ c) (hc : c ≤ maxLen) :
    Calls Tryz.prog 24 #[.slice A n c] w fun e w' => ∃ A' k c', e = .returned (.slice A' k c') ∧ k ≤ c' ∧ c' ≤ maxLen ∧ w'.ownsRow w.heap.size 5 1 (.slice A' k c') k (u8s (l.take 2000)) ∧ Below w.heap.size w w' := by
  obtain ⟨mn, hmn⟩ : ∃ mn : Nat, mn = min n 2000 := ⟨_, rfl⟩
  have hmi : min (n : Int) 2000 = (mn : Int) := by omega
  have h1 : mn ≤ n := by omega
  have h3 : mn ≤ c := by omega
  have h4 : (mn : Int) ≤ (c : Int) := by omega
  have hc63 : c ≤ 9223372036854775807 := by simp only [maxLen] at hc; omega
  have ht := hr.head h1
  rw [Nat.mul_one, u8s_take] at ht
  have hE : l.take mn = l.take 2000 := by
    have := reads_len hr
    rcases Nat.lt_or_ge n 2000 with h | h
    · rw [List.take_of_length_le (by omega), List.take_of_length_le (by omega)]
    · rw [show mn = 2000 by omega]
  rw [hE] at ht
  have HK := Lib.hid (copyBytes_any A mn c (l.take 2000) w ht (by omega))
  clear hmn hr ht hE
  go_enter Tryz.func24, Tryz.ntmps24
  go_wp2_with fail
  with_reducible refine HK.out.mono ?_
  rintro e w1 ⟨A', c', rfl, q1, q2, q3, q4⟩
  have HO := Lib.hid q3
  have HB := Lib.hid q4
  have HC := Lib.hid (And.intro q1 q2)
  clear q3 q4 q1 q2
  go_wp2
  go_ret
  exact ⟨A', mn, c', rfl, HC.out.1, HC.out.2, HO.out, HB.out⟩
def twoG : List Co := [(0, ⟨#[]⟩, 1, true, false, 0, ⟨#[]⟩), (0, ⟨#[]⟩, 4, false, false, 0, ⟨#[]⟩)]
set_option maxRecDepth 100000 in
theorem twoG_any (w : World) :
    Calls Tryz.prog 38 #[] w fun e w' => e = .returned (.slice (some ⟨w.heap.size, 0, none⟩) 2 2) ∧ Reads w' w'.heap.size 7 (some ⟨w.heap.size, 0, none⟩) 2 (cos twoG) ∧ Below w.heap.size w w' := by
  go_enter Tryz.func38, Tryz.ntmps38
  go_wp2
  go_ret
  exact ⟨rfl, reads_litc _ _ _ _ _ rfl rfl rfl, (Below.refl _ _).alloc (Nat.le_refl _) _⟩
end Go.Proofs.YtegcbjkikhheiaaGreatDoor
namespace Go.Proofs.YtegcbjkikhheiaaGreatDoor
open Go.RowKit
def rowG : List Cl := [(true, 0, ⟨#[]⟩), (false, 0, ⟨#[98]⟩)]
def row2G : List Cl := [(false, 1, ⟨#[]⟩), (false, 0, ⟨#[98]⟩)]
def itG : List It := [(rowG, 1), (row2G, 1)]
def hdG : List UInt8 := [77, 83, 1, 0, 0, 2, 2, 1, 1, 1, 98, 0, 0, 2, 2]
def xG : List UInt8 := hdG ++ sumB (crcS hdG)
theorem xG_len : xG.length = 19 := by kernel_rfl
theorem xG_head : xG.take 15 = hdG := by kernel_rfl
theorem batG : batE twoG (0, 0, itG) = 0 := by kernel_rfl
theorem batG0 : batE twoG (0, 0, []) = 0 := by kernel_rfl
theorem xG_enc : encA twoG (0, 0, itG) = xG := by kernel_rfl
theorem sizeG : sizeV twoG (0, 0, itG) = 19 := by kernel_rfl
theorem sizeG0 : sizeV twoG (0, 0, []) = 11 := by kernel_rfl
theorem whereG0 : whereV twoG (0, 0, itG) [] = 0 := by kernel_rfl
theorem whereG1 : whereV twoG (0, 0, itG) [77, 83, 1, 0, 0, 2, 3] = 6 := by kernel_rfl
theorem whereG2 : whereV twoG (0, 0, itG) xG = 19 := by kernel_rfl
theorem matchG0 : matchV twoG (0, 0, itG) xG = 0 := by kernel_rfl
theorem matchG1 : matchV twoG (0, 0, itG) (xG ++ [0]) = 4 := by kernel_rfl
theorem matchG2 : matchV twoG (0, 0, [(rowG, 0)]) xG = 172 := by kernel_rfl
theorem itG_ok : ItOk itG := okB_it _ (by kernel_rfl)
theorem itH_ok : ItOk [(rowG, 0)] := okB_it _ (by kernel_rfl)
structure WkG (w wc : World) : Prop where
  below : Below w.heap.size w wc
  items : ItemsAt wc wc.heap.size (some ⟨w.heap.size + 2, 0, none⟩) 2 itG
  blk : Blk wc (w.heap.size + 3) 25 #[.int .i64 0, .int .i64 0, .slice (some ⟨w.heap.size + 2, 0, none⟩) 2 2]
  its_ : Blk wc (w.heap.size + 2) 56 #[.slice (some ⟨w.heap.size, 0, none⟩) 2 2, .int .i64 1, .slice (some ⟨w.heap.size + 1, 0, none⟩) 2 2, .int .i64 1]
  row : Reads wc wc.heap.size 3 (some ⟨w.heap.size, 0, none⟩) 2 (cls rowG)
  tab : Tab2 wc.heap.size wc
theorem WkG.on {w wc w' : World} (H : WkG w wc) (hb : Below wc.heap.size wc w') : WkG w w' :=
  ⟨bon H.below hb, H.items.on hb, H.blk.on hb, H.its_.on hb, H.row.on hb, H.tab.on hb⟩
theorem WkG.al {w wc : World} (H : WkG w wc) (o : Obj) : WkG w (wc.alloc o) := H.on (bal (Below.refl _ _) o)
theorem WkG.c0 {w wc : World} (H : WkG w wc) : ∀ w', Below wc.heap.size wc w' → w'.cell? ⟨w.heap.size + 3, 0, none⟩ = some (.int .i64 0) := fun w' h => (H.on h).blk.cell 0
theorem WkG.c1 {w wc : World} (H : WkG w wc) : ∀ w', Below wc.heap.size wc w' → w'.cell? ⟨w.heap.size + 3, 1, none⟩ = some (.int .i64 0) := fun w' h => (H.on h).blk.cell 1
theorem WkG.c2 {w wc : World} (H : WkG w wc) : ∀ w', Below wc.heap.size wc w' → w'.cell? ⟨w.heap.size + 3, 2, none⟩ = some (.slice (some ⟨w.heap.size + 2, 0, none⟩) 2 2) := fun w' h => (H.on h).blk.cell 2
theorem WkG.i0 {w wc : World} (H : WkG w wc) : ∀ w', Below wc.heap.size wc w' → w'.cell? ⟨w.heap.size + 2, 0, none⟩ = some (.slice (some ⟨w.heap.size, 0, none⟩) 2 2) := fun w' h => (H.on h).its_.cell 0
theorem gk_mem (w : World) (hT : Tab2 w.heap.size w) : ∀ W, W = ((((w.alloc (.cells #[.bool true, .int .i64 0, .string ⟨#[]⟩, .bool false, .int .i64 0, .string ⟨#[98]⟩] 53)).alloc (.cells #[.bool false, .int .i64 1, .string ⟨#[]⟩, .bool false, .int .i64 0, .string ⟨#[98]⟩] 53)).alloc (.cells #[.slice (some ⟨w.heap.size, 0, none⟩) 2 2, .int .i64 1, .slice (some ⟨w.heap.size + 1, 0, none⟩) 2 2, .int .i64 1] 56)).alloc (.cells #[.int .i64 0, .int .i64 0, .slice (some ⟨w.heap.size + 2, 0, none⟩) 2 2] 25)) → WkG w W := by
  intro W hW
  obtain ⟨W1, h1⟩ : ∃ W1, W1 = (w.alloc (.cells #[.bool true, .int .i64 0, .string ⟨#[]⟩, .bool false, .int .i64 0, .string ⟨#[98]⟩] 53)) := ⟨_, rfl⟩
  obtain ⟨W2, h2⟩ : ∃ W2, W2 = W1.alloc (.cells #[.bool false, .int .i64 1, .string ⟨#[]⟩, .bool false, .int .i64 0, .string ⟨#[98]⟩] 53) := ⟨_, rfl⟩
  obtain ⟨W3, h3⟩ : ∃ W3, W3 = W2.alloc (.cells #[.slice (some ⟨w.heap.size, 0, none⟩) 2 2, .int .i64 1, .slice (some ⟨w.heap.size + 1, 0, none⟩) 2 2, .int .i64 1] 56) := ⟨_, rfl⟩
  rw [← h1, ← h2, ← h3] at hW
  have s1 : W1.heap.size = w.heap.size + 1 := by rw [h1]; simp
  have s2 : W2.heap.size = w.heap.size + 2 := by rw [h2]; simp [s1]
  have s3 : W3.heap.size = w.heap.size + 3 := by rw [h3]; simp [s2]
  have B1 : Blk W1 w.heap.size 53 #[.bool true, .int .i64 0, .string ⟨#[]⟩, .bool false, .int .i64 0, .string ⟨#[98]⟩] := by rw [h1]; exact Blk.new _ _ _
  have B2 : Blk W2 (w.heap.size + 1) 53 #[.bool false, .int .i64 1, .string ⟨#[]⟩, .bool false, .int .i64 0, .string ⟨#[98]⟩] := by rw [h2, ← s1]; exact Blk.new _ _ _
  have B3 : Blk W3 (w.heap.size + 2) 56 #[.slice (some ⟨w.heap.size, 0, none⟩) 2 2, .int .i64 1, .slice (some ⟨w.heap.size + 1, 0, none⟩) 2 2, .int .i64 1] := by rw [h3, ← s2]; exact Blk.new _ _ _
  have B4 : Blk W (w.heap.size + 3) 25 #[.int .i64 0, .int .i64 0, .slice (some ⟨w.heap.size + 2, 0, none⟩) 2 2] := by rw [hW, ← s3]; exact Blk.new _ _ _
  have b3 : Below W3.heap.size W3 W := by rw [hW]; exact bal (Below.refl _ _) _
  have b2 : Below W2.heap.size W2 W := bon (by rw [h3]; exact bal (Below.refl _ _) _) b3
  have b1 : Below W1.heap.size W1 W := bon (by rw [h2]; exact bal (Below.refl _ _) _) b2
  have b0 : Below w.heap.size w W := bon (by rw [h1]; exact bal (Below.refl _ _) _) b1
  have r1 := (B1.on b1).readsN 3 2 (cls rowG) rfl rfl
  have r2 := (B2.on b2).readsN 3 2 (cls row2G) rfl rfl
  refine ⟨b0, ⟨[(some ⟨w.heap.size, 0, none⟩, 2, 2), (some ⟨w.heap.size + 1, 0, none⟩, 2, 2)], (B3.on b3).readsN 2 2 _ rfl rfl, ?_⟩, B4, B3.on b3, r1, hT.on b0⟩
  exact (RowsAt.nil.snoc (h := (some ⟨w.heap.size, 0, none⟩, 2, 2)) (it := (rowG, 1)) r1 (Nat.le_refl 2) (show 2 ≤ maxLen by decide)).snoc (h := (some ⟨w.heap.size + 1, 0, none⟩, 2, 2)) (it := (row2G, 1)) r2 (Nat.le_refl 2) (show 2 ≤ maxLen by decide)
end Go.Proofs.YtegcbjkikhheiaaGreatDoor
namespace Go.Proofs.YtegcbjkikhheiaaGreatDoor
open Go.RowKit
set_option maxRecDepth 100000 in
set_option maxHeartbeats 4000000 in
theorem gworks_yes (w : World) (hT : Tab2 w.heap.size w) : Calls Tryz.prog 30 #[] w fun e w' => e = .returned (.bool true) ∧ Below w.heap.size w w' := by
  have Hm := Lib.hid (gk_mem w hT)
  obtain ⟨i0, hi0, hz0, hz1, hz2⟩ := info_parts u8_info
  clear hT
  go_enter Tryz.func30, Tryz.ntmps30
  go_wp2
  rw [show w.heap.size + 1 + 1 + 1 = w.heap.size + 3 from rfl, show w.heap.size + 1 + 1 = w.heap.size + 2 from rfl]
  generalize hW : ((((w.alloc (.cells #[.bool true, .int .i64 0, .string ⟨#[]⟩, .bool false, .int .i64 0, .string ⟨#[98]⟩] 53)).alloc (.cells #[.bool false, .int .i64 1, .string ⟨#[]⟩, .bool false, .int .i64 0, .string ⟨#[98]⟩] 53)).alloc (.cells #[.slice (some ⟨w.heap.size, 0, none⟩) 2 2, .int .i64 1, .slice (some ⟨w.heap.size + 1, 0, none⟩) 2 2, .int .i64 1] 56)).alloc (.cells #[.int .i64 0, .int .i64 0, .slice (some ⟨w.heap.size + 2, 0, none⟩) 2 2] 25)) = W
  have H := Lib.hid (Hm.out W hW.symm)
  clear hW Hm
  have HH := H
  have hS : Below W.heap.size W W.drew := (Below.refl _ _).drew
  refine wp_region_keep (fun w' => Below W.heap.size W w') [(1, false), (0, true), (2, true), (3, false), (4, false), (5, false), (6, false), (7, false)] (by kernel_rfl) (by kernel_rfl) (by kernel_rfl) (fun d _ _ _ _ h => by cases d <;> exact h) ?_
  refine held_pure (v := ?_) rfl rfl (by simp [Region.wanted, yielded]) hS ?_ ?_
  rotate_left
  · intro w hw; have c0 := HH.out.c0 w hw; have c1 := HH.out.c1 w hw; have c2 := HH.out.c2 w hw; clear hw; go_simp; try with_reducible rfl
  try simp only [Act.put, List.setIfInBounds_toArray, List.set_cons_succ, List.set_cons_zero]
  refine held_eff1 rfl (by simp [Region.wanted, yielded]) fun K hK => ?_
  go_simp
  with_reducible refine (twoG_any _).mono ?_
  rintro e w2 ⟨rfl, hr, hb2⟩
  have HS2 := Lib.hid (bon hS hb2)
  have HR := Lib.hid hr
  replace H := Lib.hid (HH.out.on HS2.out)
  clear hr hb2
  refine held_go hK (by exact HS2.out) fun hS => ?_
  clear hK K
  try simp only [Act.put, List.setIfInBounds_toArray, List.set_cons_succ, List.set_cons_zero]
  refine held_eff1 rfl (by simp [Region.wanted, yielded]) fun K hK => ?_
  go_simp
  with_reducible refine (gsize_any (some ⟨W.heap.size, 0, none⟩) 2 2 twoG 0 0 (some ⟨w.heap.size + 2, 0, none⟩) 2 2 itG _ HR.out (by decide) H.out.items (by decide) (by decide) itG_ok H.out.tab).mono ?_
  rw [sizeG, batG]
  rintro e w3 ⟨rfl, hb3⟩
  have HS3 := Lib.hid (bon HS2.out hb3)
  replace H := Lib.hid (H.out.on hb3)
  clear hb3
  refine held_go hK (by exact HS3.out) fun hS => ?_
  clear hK K
  try simp only [Act.put, List.setIfInBounds_toArray, List.set_cons_succ, List.set_cons_zero]
  iterate 5
    refine held_pure (v := ?_) rfl rfl (by simp [Region.wanted, yielded]) hS ?_ ?_
    rotate_left
    · intro w hw; go_simp; try with_reducible rfl
    try simp only [Act.put, List.setIfInBounds_toArray, List.set_cons_succ, List.set_cons_zero]
  refine held_end ?_
  clear HS2 HS3 HR HH hS
  go_wp2_with fail
  with_reducible refine (twoG_any _).mono ?_
  rintro e w4 ⟨rfl, hr, hb⟩
  have HR := Lib.hid hr
  replace H := Lib.hid (H.out.on hb)
  clear hr hb
  go_wp2_with fail
  with_reducible refine (gsize_any (some ⟨w3.heap.size, 0, none⟩) 2 2 twoG 0 0 none 0 0 [] _ HR.out (by decide) ItemsAt.nil (by decide) (by decide) (by simp [ItOk]) H.out.tab).mono ?_
  rw [sizeG0, batG0]
  rintro e w5 ⟨rfl, hb⟩
  replace H := Lib.hid (H.out.on hb)
  clear hb HR
  go_wp2_with fail
  have HH := H
  have hS : Below w5.heap.size w5 w5.drew := (Below.refl _ _).drew
  refine wp_region_keep (fun w' => Below w5.heap.size w5 w') [(1, false), (0, true), (2, true), (3, false), (4, false), (5, false), (6, false), (7, false)] (by kernel_rfl) (by kernel_rfl) (by kernel_rfl) (fun d _ _ _ _ h => by cases d <;> exact h) ?_
  refine held_pure (v := ?_) rfl rfl (by simp [Region.wanted, yielded]) hS ?_ ?_
  rotate_left
  · intro w hw; have c0 := HH.out.c0 w hw; have c1 := HH.out.c1 w hw; have c2 := HH.out.c2 w hw; clear hw; go_simp; try with_reducible rfl
  try simp only [Act.put, List.setIfInBounds_toArray, List.set_cons_succ, List.set_cons_zero]
  refine held_eff1 rfl (by simp [Region.wanted, yielded]) fun K hK => ?_
  go_simp
  with_reducible refine (twoG_any _).mono ?_
  rintro e w6 ⟨rfl, hr, hb2⟩
  have HS2 := Lib.hid (bon hS hb2)
  have HR := Lib.hid hr
  replace H := Lib.hid (HH.out.on HS2.out)
  clear hr hb2
  refine held_go hK (by exact HS2.out) fun hS => ?_
  clear hK K
  try simp only [Act.put, List.setIfInBounds_toArray, List.set_cons_succ, List.set_cons_zero]
  refine held_eff1 rfl (by simp [Region.wanted, yielded]) fun K hK => ?_
  go_simp
  with_reducible refine (benc_any (some ⟨w5.heap.size, 0, none⟩) 2 2 twoG 0 0 (some ⟨w.heap.size + 2, 0, none⟩) 2 2 itG _ HR.out (by decide) H.out.items (by decide) (baOk_of (by decide) itG_ok) itG_ok H.out.tab).mono ?_
  rw [xG_enc]
  rintro e w7 ⟨hb7, ⟨-, Ax, cx, rfl, ho⟩ | ⟨h0, -⟩⟩
  case inr => exact absurd (by kernel_rfl) h0
  have HX := Lib.hid (own_reads ho)
  have HCx := Lib.hid (own_caps ho)
  have HS3 := Lib.hid (bon HS2.out hb7)
  replace H := Lib.hid (H.out.on hb7)
  clear hb7 ho
  rw [xG_len] at *
  refine held_go hK (by exact HS3.out) fun hS => ?_
  clear hK K
  try simp only [Act.put, List.setIfInBounds_toArray, List.set_cons_succ, List.set_cons_zero]
  iterate 5
    refine held_pure (v := ?_) rfl rfl (by simp [Region.wanted, yielded]) hS ?_ ?_
    rotate_left
    · intro w hw; go_simp; try with_reducible rfl
    try simp only [Act.put, List.setIfInBounds_toArray, List.set_cons_succ, List.set_cons_zero]
  refine held_end ?_
  clear HS2 HS3 HR HH hS
  have h15 : (15 : Int) ≤ (cx : Int) := by have := HCx.out.1; omega
  have hcx63 : cx ≤ 9223372036854775807 := by have := HCx.out.2; simp only [maxLen] at this; omega
  go_wp2_with fail
  replace H := Lib.hid (H.out.al (.cells #[.int .u8 77, .int .u8 83, .int .u8 1, .int .u8 0, .int .u8 0, .int .u8 2, .int .u8 2, .int .u8 1, .int .u8 1, .int .u8 1, .int .u8 98, .int .u8 0, .int .u8 0, .int .u8 2, .int .u8 2] 5))
  replace HX := Lib.hid (HX.out.al (.cells #[.int .u8 77, .int .u8 83, .int .u8 1, .int .u8 0, .int .u8 0, .int .u8 2, .int .u8 2, .int .u8 1, .int .u8 1, .int .u8 1, .int .u8 98, .int .u8 0, .int .u8 0, .int .u8 2, .int .u8 2] 5))
  have HX15 := Lib.hid (HX.out.head (k := 15) (by decide))
  rw [Nat.mul_one, u8s_take, xG_head] at HX15
  with_reducible refine (eq_yes Ax (some ⟨w7.heap.size, 0, none⟩) 15 cx 15 15 hdG hdG _ HX15.out (by exact reads_lit _ _ _ _ _ _ rfl rfl rfl) rfl).mono ?_
  rintro e w8 ⟨rfl, rfl⟩
  clear HX15 h15
  generalize w7.alloc (.cells #[.int .u8 77, .int .u8 83, .int .u8 1, .int .u8 0, .int .u8 0, .int .u8 2, .int .u8 2, .int .u8 1, .int .u8 1, .int .u8 1, .int .u8 98, .int .u8 0, .int .u8 0, .int .u8 2, .int .u8 2] 5) = w8 at *
  generalize w7.heap.size = hh at *
  go_wp2_with fail
  have HH := H
  have hS : Below w8.heap.size w8 w8.drew := (Below.refl _ _).drew
  refine wp_region_keep (fun w' => Below w8.heap.size w8 w') [(1, false), (0, true), (2, true), (3, false), (4, false), (5, false), (6, false), (7, false)] (by kernel_rfl) (by kernel_rfl) (by kernel_rfl) (fun d _ _ _ _ h => by cases d <;> exact h) ?_
  refine held_pure (v := ?_) rfl rfl (by simp [Region.wanted, yielded]) hS ?_ ?_
  rotate_left
  · intro w hw; have c0 := HH.out.c0 w hw; have c1 := HH.out.c1 w hw; have c2 := HH.out.c2 w hw; clear hw; go_simp; try with_reducible rfl
  try simp only [Act.put, List.setIfInBounds_toArray, List.set_cons_succ, List.set_cons_zero]
  refine held_eff1 rfl (by simp [Region.wanted, yielded]) fun K hK => ?_
  go_simp
  with_reducible refine (twoG_any _).mono ?_
  rintro e w9 ⟨rfl, hr, hb2⟩
  have HS2 := Lib.hid (bon hS hb2)
  have HR := Lib.hid hr
  replace H := Lib.hid (HH.out.on HS2.out)
  clear hr hb2
  refine held_go hK (by exact HS2.out) fun hS => ?_
  clear hK K
  try simp only [Act.put, List.setIfInBounds_toArray, List.set_cons_succ, List.set_cons_zero]
  replace HX := Lib.hid (HX.out.on HS2.out)
  refine held_eff1 rfl (by simp [Region.wanted, yielded]) fun K hK => ?_
  go_simp
  with_reducible refine (gwhere_any (some ⟨w8.heap.size, 0, none⟩) 2 2 twoG 0 0 (some ⟨w.heap.size + 2, 0, none⟩) 2 2 itG none 0 0 [] _ HR.out (by decide) H.out.items (by decide) (by decide) itG_ok Reads.none_ (by decide) H.out.tab).mono ?_
  rw [whereG0, batG]
  rintro e w10 ⟨rfl, hb3⟩
  have HS3 := Lib.hid (bon HS2.out hb3)
  replace H := Lib.hid (H.out.on hb3)
  replace HX := Lib.hid (HX.out.on hb3)
  clear hb3
  refine held_go hK (by exact HS3.out) fun hS => ?_
  clear hK K
  try simp only [Act.put, List.setIfInBounds_toArray, List.set_cons_succ, List.set_cons_zero]
  iterate 5
    refine held_pure (v := ?_) rfl rfl (by simp [Region.wanted, yielded]) hS ?_ ?_
    rotate_left
    · intro w hw; go_simp; try with_reducible rfl
    try simp only [Act.put, List.setIfInBounds_toArray, List.set_cons_succ, List.set_cons_zero]
  refine held_end ?_
  clear HS2 HS3 HR HH hS
  go_wp2_with fail
  have HH := H
  have hS : Below w10.heap.size w10 w10.drew := (Below.refl _ _).drew
  have HS2 := Lib.hid hS
  refine wp_region_plan (fun w' => Below w10.heap.size w10 w') (.pure 1 (.fork 0 2 (.eff 2 (.eff 3 (.pure 4 (.pure 5 (.pure 6 (.pure 7 (.pure 8 .done))))))) (.eff 0 (.eff 3 (.pure 4 (.pure 5 (.pure 6 (.pure 7 (.pure 8 .done))))))))) (by kernel_rfl) (by kernel_rfl) (by kernel_rfl) (fun d _ _ _ _ h => by cases d <;> exact h) ?_
  refine plan_pure (v := ?_) rfl rfl (by simp [Region.wanted, yielded]) hS ?_ ?_
  rotate_left
  · intro w hw; have c0 := HH.out.c0 w hw; have c1 := HH.out.c1 w hw; have c2 := HH.out.c2 w hw; clear hw; go_simp; try with_reducible rfl
  try simp only [Act.put, List.setIfInBounds_toArray, List.set_cons_succ, List.set_cons_zero]
  replace H := Lib.hid (H.out.on hS)
  replace HX := Lib.hid (HX.out.on hS)
  clear HH
  refine plan_fork ?_ ?_
  refine plan_eff1 rfl (by simp [Region.wanted, yielded]) fun K hK => ?_
  go_simp
  with_reducible refine (twoG_any _).mono ?_
  rintro e w11 ⟨rfl, hr, hb2⟩
  have HR := Lib.hid (show Reads w11 w11.heap.size 7 (some ⟨w10.heap.size, 0, none⟩) 2 (cos twoG) from hr)
  replace H := Lib.hid (H.out.on hb2)
  replace HX := Lib.hid (HX.out.on hb2)
  replace HS2 := Lib.hid (bon HS2.out hb2)
  clear hr hb2
  refine held_go hK (by exact HS2.out) fun hS => ?_
  clear hK K
  try simp only [Act.put, List.setIfInBounds_toArray, List.set_cons_succ, List.set_cons_zero]
  refine plan_eff1 rfl (by simp [Region.wanted, yielded]) fun K hK => ?_
  go_simp
  have HL := Lib.hid (show Reads (w11.alloc (.cells #[.int .u8 77, .int .u8 83, .int .u8 1, .int .u8 0, .int .u8 0, .int .u8 2, .int .u8 3] 5)) (w11.alloc (.cells #[.int .u8 77, .int .u8 83, .int .u8 1, .int .u8 0, .int .u8 0, .int .u8 2, .int .u8 3] 5)).heap.size 1 (some ⟨w11.heap.size, 0, none⟩) 7 (u8s [77, 83, 1, 0, 0, 2, 3]) from reads_lit _ _ _ _ _ _ rfl rfl rfl)
  replace H := Lib.hid (H.out.al (.cells #[.int .u8 77, .int .u8 83, .int .u8 1, .int .u8 0, .int .u8 0, .int .u8 2, .int .u8 3] 5))
  replace HX := Lib.hid (HX.out.al (.cells #[.int .u8 77, .int .u8 83, .int .u8 1, .int .u8 0, .int .u8 0, .int .u8 2, .int .u8 3] 5))
  replace HS2 := Lib.hid (bal HS2.out (.cells #[.int .u8 77, .int .u8 83, .int .u8 1, .int .u8 0, .int .u8 0, .int .u8 2, .int .u8 3] 5))
  replace HR := Lib.hid (HR.out.al (.cells #[.int .u8 77, .int .u8 83, .int .u8 1, .int .u8 0, .int .u8 0, .int .u8 2, .int .u8 3] 5))
  refine held_go hK (by exact HS2.out) fun hS => ?_
  clear hK K
  try simp only [Act.put, List.setIfInBounds_toArray, List.set_cons_succ, List.set_cons_zero]
  rotate_left
  refine plan_eff1 rfl (by simp [Region.wanted, yielded]) fun K hK => ?_
  go_simp
  have HL := Lib.hid (show Reads (w10.drew.alloc (.cells #[.int .u8 77, .int .u8 83, .int .u8 1, .int .u8 0, .int .u8 0, .int .u8 2, .int .u8 3] 5)) (w10.drew.alloc (.cells #[.int .u8 77, .int .u8 83, .int .u8 1, .int .u8 0, .int .u8 0, .int .u8 2, .int .u8 3] 5)).heap.size 1 (some ⟨w10.heap.size, 0, none⟩) 7 (u8s [77, 83, 1, 0, 0, 2, 3]) from reads_lit _ _ _ _ _ _ rfl rfl rfl)
  replace H := Lib.hid (H.out.al (.cells #[.int .u8 77, .int .u8 83, .int .u8 1, .int .u8 0, .int .u8 0, .int .u8 2, .int .u8 3] 5))
  replace HX := Lib.hid (HX.out.al (.cells #[.int .u8 77, .int .u8 83, .int .u8 1, .int .u8 0, .int .u8 0, .int .u8 2, .int .u8 3] 5))
  replace HS2 := Lib.hid (bal HS2.out (.cells #[.int .u8 77, .int .u8 83, .int .u8 1, .int .u8 0, .int .u8 0, .int .u8 2, .int .u8 3] 5))
  refine held_go hK (by exact HS2.out) fun hS => ?_
  clear hK K
  try simp only [Act.put, List.setIfInBounds_toArray, List.set_cons_succ, List.set_cons_zero]
  refine plan_eff1 rfl (by simp [Region.wanted, yielded]) fun K hK => ?_
  go_simp
  with_reducible refine (twoG_any _).mono ?_
  rintro e w11 ⟨rfl, hr, hb2⟩
  have HR := Lib.hid (show Reads w11 w11.heap.size 7 (some ⟨w10.heap.size + 1, 0, none⟩) 2 (cos twoG) from by simpa using hr)
  replace H := Lib.hid (H.out.on hb2)
  replace HX := Lib.hid (HX.out.on hb2)
  replace HS2 := Lib.hid (bon HS2.out hb2)
  replace HL := Lib.hid (HL.out.on hb2)
  clear hr hb2
  refine held_go hK (by exact HS2.out) fun hS => ?_
  clear hK K
  try simp only [Act.put, List.setIfInBounds_toArray, List.set_cons_succ, List.set_cons_zero]
  all_goals
    refine plan_eff1 rfl (by simp [Region.wanted, yielded]) fun K hK => ?_
    go_simp
    with_reducible refine (gwhere_any _ 2 2 twoG 0 0 (some ⟨w.heap.size + 2, 0, none⟩) 2 2 itG _ 7 7 [77, 83, 1, 0, 0, 2, 3] _ HR.out (by decide) H.out.items (by decide) (by decide) itG_ok HL.out (by decide) H.out.tab).mono ?_
    rw [whereG1, batG]
    rintro e w12 ⟨rfl, hb3⟩
    replace HS2 := Lib.hid (bon HS2.out hb3)
    replace H := Lib.hid (H.out.on hb3)
    replace HX := Lib.hid (HX.out.on hb3)
    clear hb3 HR HL
    refine held_go hK (by exact HS2.out) fun hS => ?_
    clear hK K
    try simp only [Act.put, List.setIfInBounds_toArray, List.set_cons_succ, List.set_cons_zero]
    iterate 5
      refine plan_pure (v := ?_) rfl rfl (by simp [Region.wanted, yielded]) hS ?_ ?_
      rotate_left
      · intro w hw; go_simp; try with_reducible rfl
      try simp only [Act.put, List.setIfInBounds_toArray, List.set_cons_succ, List.set_cons_zero]
    refine plan_end ?_
    clear HS2 hS
    go_wp2_with fail
    have HH := H
    have hS : Below w12.heap.size w12 w12.drew := (Below.refl _ _).drew
    have HS2 := Lib.hid hS
    refine wp_region_keep (fun w' => Below w12.heap.size w12 w') [(1, false), (2, false), (0, true), (3, true), (4, false), (5, false), (6, false), (7, false), (8, false)] (by kernel_rfl) (by kernel_rfl) (by kernel_rfl) (fun d _ _ _ _ h => by cases d <;> exact h) ?_
    refine held_pure (v := ?_) rfl rfl (by simp [Region.wanted, yielded]) hS ?_ ?_
    rotate_left
    · intro w hw; have c0 := HH.out.c0 w hw; have c1 := HH.out.c1 w hw; have c2 := HH.out.c2 w hw; clear hw; go_simp; try with_reducible rfl
    try simp only [Act.put, List.setIfInBounds_toArray, List.set_cons_succ, List.set_cons_zero]
    refine held_pure (v := ?_) rfl rfl (by simp [Region.wanted, yielded]) hS ?_ ?_
    rotate_left
    · intro w hw; go_simp; try with_reducible rfl
    try simp only [Act.put, List.setIfInBounds_toArray, List.set_cons_succ, List.set_cons_zero]
    replace H := Lib.hid (H.out.on hS)
    replace HX := Lib.hid (HX.out.on hS)
    clear HH
    refine held_eff1 rfl (by simp [Region.wanted, yielded]) fun K hK => ?_
    go_simp
    with_reducible refine (twoG_any _).mono ?_
    rintro e w13 ⟨rfl, hr, hb2⟩
    have HR := Lib.hid (show Reads w13 w13.heap.size 7 (some ⟨w12.heap.size, 0, none⟩) 2 (cos twoG) from hr)
    replace H := Lib.hid (H.out.on hb2)
    replace HX := Lib.hid (HX.out.on hb2)
    replace HS2 := Lib.hid (bon HS2.out hb2)
    clear hr hb2
    refine held_go hK (by exact HS2.out) fun hS => ?_
    clear hK K
    try simp only [Act.put, List.setIfInBounds_toArray, List.set_cons_succ, List.set_cons_zero]
    refine held_eff1 rfl (by simp [Region.wanted, yielded]) fun K hK => ?_
    go_simp
    with_reducible refine (gwhere_any _ 2 2 twoG 0 0 (some ⟨w.heap.size + 2, 0, none⟩) 2 2 itG Ax 19 cx xG _ HR.out (by decide) H.out.items (by decide) (by decide) itG_ok HX.out (by decide) H.out.tab).mono ?_
    rw [whereG2, batG]
    rintro e w14 ⟨rfl, hb3⟩
    replace HS2 := Lib.hid (bon HS2.out hb3)
    replace H := Lib.hid (H.out.on hb3)
    replace HX := Lib.hid (HX.out.on hb3)
    clear hb3 HR
    refine held_go hK (by exact HS2.out) fun hS => ?_
    clear hK K
    try simp only [Act.put, List.setIfInBounds_toArray, List.set_cons_succ, List.set_cons_zero]
    iterate 5
      refine held_pure (v := ?_) rfl rfl (by simp [Region.wanted, yielded]) hS ?_ ?_
      rotate_left
      · intro w hw; go_simp; try with_reducible rfl
      try simp only [Act.put, List.setIfInBounds_toArray, List.set_cons_succ, List.set_cons_zero]
    refine held_end ?_
    clear HS2 hS
    go_wp2_with fail
    have HH := H
    have hS : Below w14.heap.size w14 w14.drew := (Below.refl _ _).drew
    have HS2 := Lib.hid hS
    have HG := H
    refine wp_region_plan (fun w' => Below w14.heap.size w14 w') (.pure 1 (.pure 2 (.eff 0 (.eff 3 (.pure 4 (.pure 5 (.pure 7 (.pure 8 (.fork 6 10 (.fork 9 10 (.eff 10 (.eff 11 (.eff 12 (.pure 13 (.pure 14 (.pure 15 (.pure 17 (.pure 18 (.pure 19 (.pure 20 (.pure 21 (.pure 22 (.pure 25 (.fork 16 23 (.eff 23 (.pure 24 (.eff 26 (.pure 27 (.pure 28 (.pure 29 .done)))))) (.pure 24 (.eff 16 (.eff 26 (.pure 27 (.pure 28 (.pure 29 .done)))))))))))))))))))) (.eff 9 (.eff 11 (.eff 12 (.pure 13 (.pure 14 (.pure 15 (.pure 17 (.pure 18 (.pure 19 (.pure 20 (.pure 21 (.pure 22 (.pure 25 (.fork 16 23 (.eff 23 (.pure 24 (.eff 26 (.pure 27 (.pure 28 (.pure 29 .done)))))) (.pure 24 (.eff 16 (.eff 26 (.pure 27 (.pure 28 (.pure 29 .done))))))))))))))))))))) (.eff 6 (.eff 9 (.eff 11 (.eff 12 (.pure 13 (.pure 14 (.pure 15 (.pure 17 (.pure 18 (.pure 19 (.pure 20 (.pure 21 (.pure 22 (.pure 25 (.fork 16 23 (.eff 23 (.pure 24 (.eff 26 (.pure 27 (.pure 28 (.pure 29 .done)))))) (.pure 24 (.eff 16 (.eff 26 (.pure 27 (.pure 28 (.pure 29 .done)))))))))))))))))))))))))))))) (by kernel_rfl) (by kernel_rfl) (by kernel_rfl) (fun d _ _ _ _ h => by cases d <;> exact h) ?_
    refine plan_pure (v := ?_) rfl rfl (by simp [Region.wanted, yielded]) hS ?_ ?_
    rotate_left
    · intro w hw; have c0 := HH.out.c0 w hw; have c1 := HH.out.c1 w hw; have c2 := HH.out.c2 w hw; clear hw; go_simp; try with_reducible rfl
    try simp only [Act.put, List.setIfInBounds_toArray, List.set_cons_succ, List.set_cons_zero]
    refine plan_pure (v := ?_) rfl rfl (by simp [Region.wanted, yielded]) hS ?_ ?_
    rotate_left
    · intro w hw; go_simp; try with_reducible rfl
    try simp only [Act.put, List.setIfInBounds_toArray, List.set_cons_succ, List.set_cons_zero]
    replace H := Lib.hid (H.out.on hS)
    replace HX := Lib.hid (HX.out.on hS)
    refine plan_eff1 rfl (by simp [Region.wanted, yielded]) fun K hK => ?_
    go_simp
    with_reducible refine (twoG_any _).mono ?_
    rintro e w15 ⟨rfl, hr, hb2⟩
    have HR := Lib.hid (show Reads w15 w15.heap.size 7 (some ⟨w14.heap.size, 0, none⟩) 2 (cos twoG) from hr)
    replace H := Lib.hid (H.out.on hb2)
    replace HX := Lib.hid (HX.out.on hb2)
    replace HS2 := Lib.hid (bon HS2.out hb2)
    clear hr hb2
    refine held_go hK (by exact HS2.out) fun hS => ?_
    clear hK K
    try simp only [Act.put, List.setIfInBounds_toArray, List.set_cons_succ, List.set_cons_zero]
    refine plan_eff1 rfl (by simp [Region.wanted, yielded]) fun K hK => ?_
    go_simp
    refine (gmatch_any _ 2 2 twoG 0 0 (some ⟨w.heap.size + 2, 0, none⟩) 2 2 itG Ax 19 cx xG _ HR.out (by decide) H.out.items (by decide) (by decide) itG_ok HX.out (by decide) H.out.tab).mono ?_
    rw [matchG0]
    rintro e w16 ⟨rfl, hb3⟩
    replace HS2 := Lib.hid (bon HS2.out hb3)
    replace H := Lib.hid (H.out.on hb3)
    replace HX := Lib.hid (HX.out.on hb3)
    clear hb3 HR
    refine held_go hK (by exact HS2.out) fun hS => ?_
    clear hK K
    try simp only [Act.put, List.setIfInBounds_toArray, List.set_cons_succ, List.set_cons_zero]
    iterate 2
      refine plan_pure (v := ?_) rfl rfl (by simp [Region.wanted, yielded]) hS ?_ ?_
      rotate_left
      · intro w hw; go_simp; try with_reducible rfl
      try simp only [Act.put, List.setIfInBounds_toArray, List.set_cons_succ, List.set_cons_zero]
    refine plan_pure (v := ?_) rfl rfl (by simp [Region.wanted, yielded]) hS ?_ ?_
    rotate_left
    · intro w hw; have c0 := HH.out.c0 w hw; have c1 := HH.out.c1 w hw; have c2 := HH.out.c2 w hw; clear hw; go_simp; try with_reducible rfl
    try simp only [Act.put, List.setIfInBounds_toArray, List.set_cons_succ, List.set_cons_zero]
    refine plan_pure (v := ?_) rfl rfl (by simp [Region.wanted, yielded]) hS ?_ ?_
    rotate_left
    · intro w hw; go_simp; try with_reducible rfl
    try simp only [Act.put, List.setIfInBounds_toArray, List.set_cons_succ, List.set_cons_zero]
    refine plan_fork ?_ ?_
    refine plan_eff1 rfl (by simp [Region.wanted, yielded]) fun K hK => ?_
    go_simp
    with_reducible refine (twoG_any _).mono ?_
    rintro e w17 ⟨rfl, hr, hb2⟩
    have HR := Lib.hid (show Reads w17 w17.heap.size 7 (some ⟨w16.heap.size, 0, none⟩) 2 (cos twoG) from hr)
    replace H := Lib.hid (H.out.on hb2)
    replace HX := Lib.hid (HX.out.on hb2)
    replace HS2 := Lib.hid (bon HS2.out hb2)
    clear hr hb2
    refine held_go hK (by exact HS2.out) fun hS => ?_
    clear hK K
    try simp only [Act.put, List.setIfInBounds_toArray, List.set_cons_succ, List.set_cons_zero]
    refine plan_fork ?_ ?_
    refine plan_eff1 rfl (by simp [Region.wanted, yielded]) fun K hK => ?_
    go_simp
    with_reducible refine (copyBytes_any Ax 19 cx xG _ HX.out (by decide)).mono ?_
    rintro e w18 ⟨A9, c9, rfl, -, -, ho, hb2⟩
    have HKH := H
    have HKX := HX
    have HKR := HR
    have HKS := HS2
    have HO := Lib.hid ho
    have HBk := Lib.hid hb2
    replace HS2 := Lib.hid (bon HS2.out hb2)
    refine held_go hK (by exact HS2.out) fun hS => ?_
    clear hK K
    try simp only [Act.put, List.setIfInBounds_toArray, List.set_cons_succ, List.set_cons_zero]
    refine plan_eff1 rfl (by simp [Region.wanted, yielded]) fun K hK => ?_
    go_simp
    have HL := Lib.hid (show Reads (w18.alloc (.cells #[.int .u8 0] 5)) (w18.alloc (.cells #[.int .u8 0] 5)).heap.size 1 (some ⟨w18.heap.size, 0, none⟩) 1 (u8s [0]) from reads_lit _ _ _ _ _ _ rfl rfl rfl)
    replace HBk := Lib.hid (bal HBk.out (.cells #[.int .u8 0] 5))
    replace HS2 := Lib.hid (bal HS2.out (.cells #[.int .u8 0] 5))
    replace HO := Lib.hid (HO.out.alloc (.cells #[.int .u8 0] 5))
    refine held_go hK (by exact HS2.out) fun hS => ?_
    clear hK K
    try simp only [Act.put, List.setIfInBounds_toArray, List.set_cons_succ, List.set_cons_zero]
    generalize w18.alloc (.cells #[.int .u8 0] 5) = w20 at *
    rotate_left
    refine plan_eff1 rfl (by simp [Region.wanted, yielded]) fun K hK => ?_
    go_simp
    have HL := Lib.hid (show Reads (w17.alloc (.cells #[.int .u8 0] 5)) (w17.alloc (.cells #[.int .u8 0] 5)).heap.size 1 (some ⟨w17.heap.size, 0, none⟩) 1 (u8s [0]) from reads_lit _ _ _ _ _ _ rfl rfl rfl)
    replace H := Lib.hid (H.out.al (.cells #[.int .u8 0] 5))
    replace HX := Lib.hid (HX.out.al (.cells #[.int .u8 0] 5))
    replace HR := Lib.hid (HR.out.al (.cells #[.int .u8 0] 5))
    replace HS2 := Lib.hid (bal HS2.out (.cells #[.int .u8 0] 5))
    refine held_go hK (by exact HS2.out) fun hS => ?_
    clear hK K
    try simp only [Act.put, List.setIfInBounds_toArray, List.set_cons_succ, List.set_cons_zero]
    generalize w17.alloc (.cells #[.int .u8 0] 5) = w18 at *
    refine plan_eff1 rfl (by simp [Region.wanted, yielded]) fun K hK => ?_
    go_simp
    with_reducible refine (copyBytes_any Ax 19 cx xG _ HX.out (by decide)).mono ?_
    rintro e w20 ⟨A9, c9, rfl, -, -, ho, hb2⟩
    have HKH := H
    have HKX := HX
    have HKR := HR
    have HKS := HS2
    have HO := Lib.hid ho
    have HBk := Lib.hid hb2
    replace HS2 := Lib.hid (bon HS2.out hb2)
    replace HL := Lib.hid (HL.out.on hb2)
    refine held_go hK (by exact HS2.out) fun hS => ?_
    clear hK K
    try simp only [Act.put, List.setIfInBounds_toArray, List.set_cons_succ, List.set_cons_zero]
    rotate_left
    refine plan_eff1 rfl (by simp [Region.wanted, yielded]) fun K hK => ?_
    go_simp
    have HL := Lib.hid (show Reads (w16.alloc (.cells #[.int .u8 0] 5)) (w16.alloc (.cells #[.int .u8 0] 5)).heap.size 1 (some ⟨w16.heap.size, 0, none⟩) 1 (u8s [0]) from reads_lit _ _ _ _ _ _ rfl rfl rfl)
    replace H := Lib.hid (H.out.al (.cells #[.int .u8 0] 5))
    replace HX := Lib.hid (HX.out.al (.cells #[.int .u8 0] 5))
    replace HS2 := Lib.hid (bal HS2.out (.cells #[.int .u8 0] 5))
    refine held_go hK (by exact HS2.out) fun hS => ?_
    clear hK K
    try simp only [Act.put, List.setIfInBounds_toArray, List.set_cons_succ, List.set_cons_zero]
    refine plan_eff1 rfl (by simp [Region.wanted, yielded]) fun K hK => ?_
    go_simp
    with_reducible refine (twoG_any _).mono ?_
    rintro e w18 ⟨rfl, hr, hb2⟩
    have HR := Lib.hid (show Reads w18 w18.heap.size 7 (some ⟨w16.heap.size + 1, 0, none⟩) 2 (cos twoG) from by simpa using hr)
    replace H := Lib.hid (H.out.on hb2)
    replace HX := Lib.hid (HX.out.on hb2)
    replace HL := Lib.hid (HL.out.on hb2)
    replace HS2 := Lib.hid (bon HS2.out hb2)
    clear hr hb2
    refine held_go hK (by exact HS2.out) fun hS => ?_
    clear hK K
    try simp only [Act.put, List.setIfInBounds_toArray, List.set_cons_succ, List.set_cons_zero]
    refine plan_eff1 rfl (by simp [Region.wanted, yielded]) fun K hK => ?_
    go_simp
    with_reducible refine (copyBytes_any Ax 19 cx xG _ HX.out (by decide)).mono ?_
    rintro e w20 ⟨A9, c9, rfl, -, -, ho, hb2⟩
    have HKH := H
    have HKX := HX
    have HKR := HR
    have HKS := HS2
    have HO := Lib.hid ho
    have HBk := Lib.hid hb2
    replace HS2 := Lib.hid (bon HS2.out hb2)
    replace HL := Lib.hid (HL.out.on hb2)
    refine held_go hK (by exact HS2.out) fun hS => ?_
    clear hK K
    try simp only [Act.put, List.setIfInBounds_toArray, List.set_cons_succ, List.set_cons_zero]
    all_goals
      refine plan_eff1 rfl (by simp [Region.wanted, yielded]) fun K hK => ?_
      refine wp_append_any _ (.tmp 123) (.tmp 124) 26 rfl _ 5 i0 (.int .u8 0) 1 1 Tryz.underlying26 hi0 hz0 hz1 hz2 rfl (by decide) A9 19 c9 _ rfl HO.out (some ⟨_, 0, none⟩) 1 1 (u8s [0]) rfl HL.out (u8s_one _) (by decide) (by decide) HBk.out.size ?_
      intro A11 c11 w21 r1 r2 r3 r4 r5
      rw [← u8s_append] at r1
      have HX2 := Lib.hid (show Reads w21 w21.heap.size 1 A11 20 (u8s (xG ++ [0])) from own_reads r1)
      have hb2 := HBk.out.trans r2
      replace H := Lib.hid (HKH.out.on hb2)
      replace HX := Lib.hid (HKX.out.on hb2)
      replace HR := Lib.hid (HKR.out.on hb2)
      replace HS2 := Lib.hid (bon HKS.out hb2)
      clear r1 r2 r3 r4 r5 hb2 HL HO HBk HKH HKX HKR HKS
      refine held_go hK (by exact HS2.out) fun hS => ?_
      clear hK K
      try simp only [Act.put, List.setIfInBounds_toArray, List.set_cons_succ, List.set_cons_zero]
      refine plan_eff1 rfl (by simp [Region.wanted, yielded]) fun K hK => ?_
      go_simp
      with_reducible refine (gmatch_any _ 2 2 twoG 0 0 (some ⟨w.heap.size + 2, 0, none⟩) 2 2 itG A11 20 c11 (xG ++ [0]) _ HR.out (by decide) H.out.items (by decide) (by decide) itG_ok HX2.out (by decide) H.out.tab).mono ?_
      rw [matchG1]
      rintro e w22 ⟨rfl, hb3⟩
      replace HS2 := Lib.hid (bon HS2.out hb3)
      replace H := Lib.hid (H.out.on hb3)
      replace HX := Lib.hid (HX.out.on hb3)
      clear hb3 HR HX2
      refine held_go hK (by exact HS2.out) fun hS => ?_
      clear hK K
      try simp only [Act.put, List.setIfInBounds_toArray, List.set_cons_succ, List.set_cons_zero]
      iterate 4
        refine plan_pure (v := ?_) rfl rfl (by simp [Region.wanted, yielded]) hS ?_ ?_
        rotate_left
        · intro w hw; go_simp; try with_reducible rfl
        try simp only [Act.put, List.setIfInBounds_toArray, List.set_cons_succ, List.set_cons_zero]
      refine plan_pure (v := ?_) rfl rfl (by simp [Region.wanted, yielded]) hS ?_ ?_
      rotate_left
      · intro w hw; have c0 := HH.out.c2 w hw; clear hw; go_simp; try with_reducible rfl
      try simp only [Act.put, List.setIfInBounds_toArray, List.set_cons_succ, List.set_cons_zero]
      iterate 2
        refine plan_pure (v := ?_) rfl rfl (by simp [Region.wanted, yielded]) hS ?_ ?_
        rotate_left
        · intro w hw; go_simp; try with_reducible rfl
        try simp only [Act.put, List.setIfInBounds_toArray, List.set_cons_succ, List.set_cons_zero]
      refine plan_pure (v := ?_) rfl rfl (by simp [Region.wanted, yielded]) hS ?_ ?_
      rotate_left
      · intro w hw; have c0 := HG.out.i0 w hw; clear hw; go_simp; try with_reducible rfl
      try simp only [Act.put, List.setIfInBounds_toArray, List.set_cons_succ, List.set_cons_zero]
      iterate 2
        refine plan_pure (v := ?_) rfl rfl (by simp [Region.wanted, yielded]) hS ?_ ?_
        rotate_left
        · intro w hw; go_simp; try with_reducible rfl
        try simp only [Act.put, List.setIfInBounds_toArray, List.set_cons_succ, List.set_cons_zero]
      refine plan_fork ?_ ?_
      refine plan_eff1 rfl (by simp [Region.wanted, yielded]) fun K hK => ?_
      go_simp
      with_reducible refine (twoG_any _).mono ?_
      rintro e w23 ⟨rfl, hr, hb2⟩
      have HR := Lib.hid (show Reads w23 w23.heap.size 7 (some ⟨w22.heap.size, 0, none⟩) 2 (cos twoG) from hr)
      replace H := Lib.hid (H.out.on hb2)
      replace HX := Lib.hid (HX.out.on hb2)
      replace HS2 := Lib.hid (bon HS2.out hb2)
      clear hr hb2
      refine held_go hK (by exact HS2.out) fun hS => ?_
      clear hK K
      try simp only [Act.put, List.setIfInBounds_toArray, List.set_cons_succ, List.set_cons_zero]
      refine plan_eff1 rfl (by simp [Region.wanted, yielded]) fun K hK => ?_
      go_simp
      have HI := Lib.hid (show ItemsAt (w23.alloc (.cells #[.slice (some ⟨w.heap.size, 0, none⟩) 2 2, .int .i64 0] 56)) (w23.alloc (.cells #[.slice (some ⟨w.heap.size, 0, none⟩) 2 2, .int .i64 0] 56)).heap.size (some ⟨w23.heap.size, 0, none⟩) 1 [(rowG, 0)] from items_one (Blk.new _ _ _) (H.out.al (.cells #[.slice (some ⟨w.heap.size, 0, none⟩) 2 2, .int .i64 0] 56)).row (by decide) (by decide))
      replace H := Lib.hid (H.out.al (.cells #[.slice (some ⟨w.heap.size, 0, none⟩) 2 2, .int .i64 0] 56))
      replace HX := Lib.hid (HX.out.al (.cells #[.slice (some ⟨w.heap.size, 0, none⟩) 2 2, .int .i64 0] 56))
      replace HR := Lib.hid (HR.out.al (.cells #[.slice (some ⟨w.heap.size, 0, none⟩) 2 2, .int .i64 0] 56))
      replace HS2 := Lib.hid (bal HS2.out (.cells #[.slice (some ⟨w.heap.size, 0, none⟩) 2 2, .int .i64 0] 56))
      refine held_go hK (by exact HS2.out) fun hS => ?_
      clear hK K
      try simp only [Act.put, List.setIfInBounds_toArray, List.set_cons_succ, List.set_cons_zero]
      generalize w23.alloc (.cells #[.slice (some ⟨w.heap.size, 0, none⟩) 2 2, .int .i64 0] 56) = w24 at *
      refine plan_pure (v := ?_) rfl rfl (by simp [Region.wanted, yielded]) hS ?_ ?_
      rotate_left
      · intro w hw; go_simp; try with_reducible rfl
      try simp only [Act.put, List.setIfInBounds_toArray, List.set_cons_succ, List.set_cons_zero]
      rotate_left
      refine plan_eff1 rfl (by simp [Region.wanted, yielded]) fun K hK => ?_
      go_simp
      have HI := Lib.hid (show ItemsAt (w22.alloc (.cells #[.slice (some ⟨w.heap.size, 0, none⟩) 2 2, .int .i64 0] 56)) (w22.alloc (.cells #[.slice (some ⟨w.heap.size, 0, none⟩) 2 2, .int .i64 0] 56)).heap.size (some ⟨w22.heap.size, 0, none⟩) 1 [(rowG, 0)] from items_one (Blk.new _ _ _) (H.out.al (.cells #[.slice (some ⟨w.heap.size, 0, none⟩) 2 2, .int .i64 0] 56)).row (by decide) (by decide))
      replace H := Lib.hid (H.out.al (.cells #[.slice (some ⟨w.heap.size, 0, none⟩) 2 2, .int .i64 0] 56))
      replace HX := Lib.hid (HX.out.al (.cells #[.slice (some ⟨w.heap.size, 0, none⟩) 2 2, .int .i64 0] 56))
      replace HS2 := Lib.hid (bal HS2.out (.cells #[.slice (some ⟨w.heap.size, 0, none⟩) 2 2, .int .i64 0] 56))
      refine held_go hK (by exact HS2.out) fun hS => ?_
      clear hK K
      try simp only [Act.put, List.setIfInBounds_toArray, List.set_cons_succ, List.set_cons_zero]
      refine plan_pure (v := ?_) rfl rfl (by simp [Region.wanted, yielded]) hS ?_ ?_
      rotate_left
      · intro w hw; go_simp; try with_reducible rfl
      try simp only [Act.put, List.setIfInBounds_toArray, List.set_cons_succ, List.set_cons_zero]
      refine plan_eff1 rfl (by simp [Region.wanted, yielded]) fun K hK => ?_
      go_simp
      with_reducible refine (twoG_any _).mono ?_
      rintro e w24 ⟨rfl, hr, hb2⟩
      have HR := Lib.hid (show Reads w24 w24.heap.size 7 (some ⟨w22.heap.size + 1, 0, none⟩) 2 (cos twoG) from by simpa using hr)
      replace H := Lib.hid (H.out.on hb2)
      replace HX := Lib.hid (HX.out.on hb2)
      replace HI := Lib.hid (HI.out.on hb2)
      replace HS2 := Lib.hid (bon HS2.out hb2)
      clear hr hb2
      refine held_go hK (by exact HS2.out) fun hS => ?_
      clear hK K
      try simp only [Act.put, List.setIfInBounds_toArray, List.set_cons_succ, List.set_cons_zero]
      all_goals
        refine plan_eff1 rfl (by simp [Region.wanted, yielded]) fun K hK => ?_
        go_simp
        with_reducible refine (gmatch_any _ 2 2 twoG 0 0 _ 1 1 [(rowG, 0)] Ax 19 cx xG _ HR.out (by decide) HI.out (by decide) (by decide) itH_ok HX.out (by decide) H.out.tab).mono ?_
        rw [matchG2]
        rintro e w25 ⟨rfl, hb3⟩
        replace HS2 := Lib.hid (bon HS2.out hb3)
        replace H := Lib.hid (H.out.on hb3)
        clear hb3 HR HI HX
        refine held_go hK (by exact HS2.out) fun hS => ?_
        clear hK K
        try simp only [Act.put, List.setIfInBounds_toArray, List.set_cons_succ, List.set_cons_zero]
        iterate 3
          refine plan_pure (v := ?_) rfl rfl (by simp [Region.wanted, yielded]) hS ?_ ?_
          rotate_left
          · intro w hw; go_simp; try with_reducible rfl
          try simp only [Act.put, List.setIfInBounds_toArray, List.set_cons_succ, List.set_cons_zero]
        refine plan_end ?_
        go_wp2
        go_ret
        exact ⟨rfl, H.out.below⟩
end Go.Proofs.YtegcbjkikhheiaaGreatDoor
