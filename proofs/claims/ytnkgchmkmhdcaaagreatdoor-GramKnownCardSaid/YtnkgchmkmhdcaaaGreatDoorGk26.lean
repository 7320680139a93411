/- Part 26 of the walks, merged: each text under its own heading. Conditions: none of its own; each lemma states what it asks. -/
import Derived.Test.YtnkgchmkmhdcaaaGreatDoorGk11
import Derived.Test.YtnkgchmkmhdcaaaGreatDoorGk25
set_option linter.unusedVariables false
set_option linter.unusedSimpArgs false
namespace Go.Proofs.YtnkgchmkmhdcaaaGreatDoor
open Go.RowKit
set_option maxRecDepth 100000 in
set_option maxHeartbeats 4000000 in
theorem rmask_any (g : Nat) (X : Option Addr) (xn xc : Nat) (xs pre : List UInt8) (A : Option Addr) (n c base : Nat) (l : List Bool) (w : World) (h : Wk w g X xn xc xs pre) (ho : w.ownsRow base 4 1 (.slice A n c) n (bls l)) (hn : n ≤ 1099511627776) (hl : pre.length + n ≤ 4611686018427387000) :
  Calls Tryz.prog 254 #[.pointer (some ⟨g, 0, none⟩), .slice A n c] w (WalkP g X xn xc xs pre (packL l) w) := by
 have H := Lib.hid h
 have HO := Lib.hid ho
 have hln : l.length = n := blen (own_reads ho)
 have Hln := Lib.hid hln
 clear h ho hln
 go_enter Tryz.func254, Tryz.ntmps254
 go_wp2
 go_loopw [4] (fun v wr => ∃ (i : Nat) (done : List UInt8), i ≤ n + 8 ∧ v = .int .i64 (i : Int) ∧ Hid (done.length ≤ i) ∧ Hid (packL l = done ++ packL (l.drop i)) ∧ Hid (Wk wr g X xn xc xs (pre ++ done)) ∧ Hid (wr.ownsRow base 4 1 (.slice A n c) n (bls l)) ∧ Hid (w.grownBy wr (some g))) (fun v _ => n + 8 - (intOf v).toNat)
 case atStart => exact ⟨0, [], by omega, rfl, Lib.hid (Nat.zero_le _), Lib.hid rfl, Lib.hid (by simpa using H.out), HO, Lib.hid (grown_refl _ _)⟩
 case round =>
  clear H HO
  obtain ⟨i, done, hi, rfl, Hdl, Hd, H, HO, HG⟩ := hrel
  by_cases hin : i < n
  ·have d1 : decide ((i : Int) < (n : Int)) = true := by simp; omega
   obtain ⟨rest, hrest⟩ : ∃ rest, l.drop i = rest := ⟨_, rfl⟩
   have Hrest := Lib.hid hrest
   have hrl : rest.length = n - i := by rw [← hrest, List.length_drop, Hln.out]
   obtain ⟨mn, hmn⟩ : ∃ mn : Nat, mn = min 8 (n - i) := ⟨_, rfl⟩
   have h8 : mn ≤ 8 := by omega
   have hmi : i + mn ≤ n := by omega
   have Hmn := Lib.hid hmn
   have Hrl := Lib.hid hrl
   clear hrest hmn hrl
   generalize wr = W at *
   go_wp2
   go_loopw [5, 6, 7] (fun u p kx wr => ∃ t bb pw kk : Nat, t ≤ mn ∧ u = .int .i64 (bb : Int) ∧ p = .int .i64 (pw : Int) ∧ kx = .int .i64 (kk : Int) ∧ Hid (bb = byteOf (rest.take t)) ∧ Hid (pw = 2 ^ t) ∧ Hid (kk = i + t) ∧ wr = W) (fun _ _ kx _ => n - (intOf kx).toNat)
   case atStart => exact ⟨0, 0, 1, i, Nat.zero_le _, rfl, rfl, rfl, Lib.hid rfl, Lib.hid rfl, Lib.hid rfl, rfl⟩
   case round =>
    obtain ⟨t, bb, pw, kk, ht, rfl, rfl, rfl, Hbb, Hpw, Hkk, rfl⟩ := hrel
    by_cases hlt : t < mn
    ·have hkn : kk < n := by have := Hkk.out; omega
     have d2 : decide ((kk : Int) < (n : Int)) = true := by simp; omega
     have d3 : decide ((kk : Int) < (i : Int) + 8) = true := by have := Hkk.out; simp; omega
     have e1 : (kk : Int) < (n : Int) := by omega
     obtain ⟨ad, v, rfl, -, hx, c1⟩ := (own_reads HO.out).at_ hkn
     obtain ⟨q, hq, rfl⟩ := bls_get _ _ _ hx
     have hst := byteOf_step rest t q (by rw [← Hrest.out, List.getElem?_drop, ← Hkk.out]; exact hq)
     have hlt2 := byteOf_lt_take rest t
     rw [← Hbb.out, ← Hpw.out] at hlt2
     have hp7 : pw ≤ 128 := by rw [Hpw.out]; have : 2 ^ t ≤ 2 ^ 7 := Nat.pow_le_pow_right (by omega) (by omega); omega
     have Hst := Lib.hid hst
     have hp2 := Lib.hid (show pw * 2 = 2 ^ (t + 1) by rw [Hpw.out, Nat.pow_succ])
     clear hx hq hst
     cases q with
     | true =>
      go_wp2
      go_roundw
      case rel => exact ⟨t + 1, bb + pw, pw * 2, kk + 1, hlt, by go_num, by go_num, by go_num, Lib.hid (by rw [Hst.out, if_pos rfl, ← Hbb.out, ← Hpw.out]), hp2, Lib.hid (by have := Hkk.out; omega), trivial⟩
      case measure => simp [intOf]; omega
     | false =>
      go_wp2
      go_roundw
      case rel => exact ⟨t + 1, bb, pw * 2, kk + 1, hlt, by go_num, by go_num, by go_num, Lib.hid (by rw [Hst.out, ← Hbb.out]; simp), hp2, Lib.hid (by have := Hkk.out; omega), trivial⟩
      case measure => simp [intOf]; omega
    ·obtain rfl : t = mn := by omega
     have hrl := Hrl.out
     have htk : rest.take t = rest.take 8 := by
      have := Hmn.out
      rcases Nat.lt_or_ge (n - i) 8 with h | h
      ·rw [List.take_of_length_le (by omega), List.take_of_length_le (by omega)]
      ·rw [show t = 8 by omega]
     by_cases hkn : kk < n
     ·have d2 : decide ((kk : Int) < (n : Int)) = true := by simp; omega
      have d3 : decide ((kk : Int) < (i : Int) + 8) = false := by have := Hkk.out; have := Hmn.out; simp; omega
      have Hcf := Lib.hid (show packL l = (done ++ [UInt8.ofNat bb]) ++ packL (l.drop (i + 8)) by
       have hne : rest ≠ [] := by intro h; rw [h] at hrl; simp at hrl; omega
       rw [Hd.out, Hrest.out, packL_chunk rest hne, Hbb.out, ← htk, ← Hrest.out, List.drop_drop]
       simp)
      have hcl : (pre ++ done).length < 4611686018427387904 := by have := Hdl.out; rw [List.length_append]; omega
      have hb256 : bb < 256 := by rw [Hbb.out]; have := byteOf_lt_take rest t; have : 2 ^ t ≤ 2 ^ 8 := Nat.pow_le_pow_right (by omega) h8; omega
      clear htk
      go_wp2_with fail
      refine (ris_any g X xn xc xs (pre ++ done) (UInt8.ofNat bb) _ (by rw [ofNat_toNat _ hb256]) _ H.out hcl).mono ?_
      rintro e w1 ⟨rfl, hW, hg⟩
      have HO1 := Lib.hid (own_grown HO.out H.out.blk (by decide) hg)
      have HG1 := Lib.hid (grown_trans HG.out hg)
      have H1 := Lib.hid (show Wk w1 g X xn xc xs (pre ++ (done ++ [UInt8.ofNat bb])) by rw [← List.append_assoc]; exact hW)
      have Hdl1 := Lib.hid (show (done ++ [UInt8.ofNat bb]).length ≤ i + 8 by have := Hdl.out; rw [List.length_append, List.length_singleton]; omega)
      clear hW hg H HO HG
      go_wp2
      go_roundw
      case rel => exact ⟨i + 8, _, by omega, by go_num, Hdl1, Hcf, H1, HO1, HG1⟩
      case measure => simp [intOf]; omega
     ·have d2 : decide ((kk : Int) < (n : Int)) = false := by simp; omega
      have Hcf := Lib.hid (show packL l = (done ++ [UInt8.ofNat bb]) ++ packL (l.drop (i + 8)) by
       have hne : rest ≠ [] := by intro h; rw [h] at hrl; simp at hrl; omega
       rw [Hd.out, Hrest.out, packL_chunk rest hne, Hbb.out, ← htk, ← Hrest.out, List.drop_drop]
       simp)
      have hcl : (pre ++ done).length < 4611686018427387904 := by have := Hdl.out; rw [List.length_append]; omega
      have hb256 : bb < 256 := by rw [Hbb.out]; have := byteOf_lt_take rest t; have : 2 ^ t ≤ 2 ^ 8 := Nat.pow_le_pow_right (by omega) h8; omega
      clear htk
      go_wp2_with fail
      refine (ris_any g X xn xc xs (pre ++ done) (UInt8.ofNat bb) _ (by rw [ofNat_toNat _ hb256]) _ H.out hcl).mono ?_
      rintro e w1 ⟨rfl, hW, hg⟩
      have HO1 := Lib.hid (own_grown HO.out H.out.blk (by decide) hg)
      have HG1 := Lib.hid (grown_trans HG.out hg)
      have H1 := Lib.hid (show Wk w1 g X xn xc xs (pre ++ (done ++ [UInt8.ofNat bb])) by rw [← List.append_assoc]; exact hW)
      have Hdl1 := Lib.hid (show (done ++ [UInt8.ofNat bb]).length ≤ i + 8 by have := Hdl.out; rw [List.length_append, List.length_singleton]; omega)
      clear hW hg H HO HG
      go_wp2
      go_roundw
      case rel => exact ⟨i + 8, _, by omega, by go_num, Hdl1, Hcf, H1, HO1, HG1⟩
      case measure => simp [intOf]; omega
  ·have d1 : decide ((i : Int) < (n : Int)) = false := by simp; omega
   have hp : packL l = done := by
    rw [Hd.out, List.drop_eq_nil_of_le (by rw [Hln.out]; omega), packL_nil, List.append_nil]
   go_wp2
   go_end0
   rw [hp]
   exact ⟨rfl, H.out, HG.out⟩
abbrev txc (l : List Cl) : List ByteArray := l.map fun c => c.2.2
theorem txc_at {l : List Cl} {k : Nat} {u : Bool} {m : Int} {s : ByteArray} (h : l[k]? = some (u, m, s)) : (txc l)[k]? = some s := by simp [txc, h]
def FirstP (l : List Cl) (i : Nat) (s : ByteArray) (w : World) (e : Ending) (w' : World) : Prop := ∃ b : Bool, e = .returned (.bool b) ∧ (b = true ↔ s ∉ (txc l).take i) ∧ Below w.heap.size w w'
set_option maxRecDepth 100000 in
set_option maxHeartbeats 2000000 in
theorem rfirst_any (A : Option Addr) (n c : Nat) (l : List Cl) (i : Nat) (s : ByteArray) (hs : (txc l)[i]? = some s) (w : World) (hr : Reads w w.heap.size 3 A n (cls l)) (hn : n ≤ 1099511627776) :
  Calls Tryz.prog 300 #[.slice A n c, .int .i64 (i : Int)] w (FirstP l i s w) := by
 have Hr := Lib.hid hr
 have hin : i < n := by have := (List.getElem?_eq_some_iff.1 hs).1; have := cls_len hr; have h3 := (List.getElem?_eq_some_iff.1 hs).1; rw [List.length_map] at h3; omega
 have Hs := Lib.hid hs
 clear hr hs
 go_enter Tryz.func300, Tryz.ntmps300
 go_wp2
 go_loopw [5] (fun v wr => ∃ k : Nat, k ≤ i ∧ v = .int .i64 (k : Int) ∧ Hid (s ∉ (txc l).take k) ∧ Hid (Below w.heap.size w wr)) (fun v _ => i - (intOf v).toNat)
 case atStart => exact ⟨0, Nat.zero_le _, rfl, Lib.hid (by simp), Lib.hid (Below.refl _ _)⟩
 case round =>
  obtain ⟨k, hk, rfl, Hno, HB⟩ := hrel
  by_cases hlt : k < i
  ·have d1 : decide ((k : Int) < (i : Int)) = true := by simp; omega
   have hkn : k < n := by omega
   have e1 : (k : Int) < (n : Int) := by omega
   have e2 : (i : Int) < (n : Int) := by omega
   have hr2 := Hr.out.on HB.out
   obtain ⟨ad, u, m, s1, rfl, -, hb1, -, -, g2⟩ := cls_at hr2 hkn
   obtain ⟨ad', u', m', s', had, -, hb2, -, -, k2⟩ := cls_at hr2 hin
   obtain rfl := Option.some.inj had
   obtain rfl : s' = s := Option.some.inj ((txc_at hb2).symm.trans Hs.out)
   have HA := Lib.hid (show ∀ w', w' = wr.drew → w'.cell? ⟨(ad.add (k * 3)).block, (ad.add (k * 3)).off + 2, none⟩ = some (.string s1) from fun w' h => by rw [h]; exact g2)
   have HC := Lib.hid (show ∀ w', w' = wr.drew → w'.cell? ⟨(ad.add (i * 3)).block, (ad.add (i * 3)).off + 2, none⟩ = some (.string s') from fun w' h => by rw [h]; exact k2)
   have Hb1 := Lib.hid (txc_at hb1)
   replace HB := Lib.hid (show Below w.heap.size w wr.drew from bon HB.out (Below.refl _ _).drew)
   clear hr2 hb1 hb2 g2 k2 had
   by_cases hss : s1 = s'
   ·subst hss
    have HY := Lib.hid (show s1 ∈ (txc l).take i from List.mem_of_getElem? (i := k) (by rw [List.getElem?_take, if_pos hlt]; exact Hb1.out))
    have t1 : (s1.toList == s1.toList) = true := by simp
    go_wp2
    have hS : wr.drew = wr.drew := rfl
    refine wp_region_keep (fun w' => w' = wr.drew) [(0, false), (1, false), (2, false), (3, false), (4, false), (5, false), (6, false), (7, false), (8, false), (9, false), (10, false)] (by kernel_rfl) (by kernel_rfl) (by kernel_rfl) (fun d _ _ _ _ h => by cases d <;> exact h) ?_
    iterate 4
     refine held_pure (v := ?_) rfl rfl (by simp [Region.wanted, yielded]) hS ?_ ?_
     rotate_left
     ·intro w hw; go_simp; try with_reducible rfl
     try simp only [Act.put, zpA, zpB, zpC]
    refine held_pure (v := ?_) rfl rfl (by simp [Region.wanted, yielded]) hS ?_ ?_
    rotate_left
    ·intro w hw; have c0 := HA.out w hw; clear hw; go_simp; try with_reducible rfl
    try simp only [Act.put, zpA, zpB, zpC]
    iterate 4
     refine held_pure (v := ?_) rfl rfl (by simp [Region.wanted, yielded]) hS ?_ ?_
     rotate_left
     ·intro w hw; go_simp; try with_reducible rfl
     try simp only [Act.put, zpA, zpB, zpC]
    refine held_pure (v := ?_) rfl rfl (by simp [Region.wanted, yielded]) hS ?_ ?_
    rotate_left
    ·intro w hw; have c0 := HC.out w hw; clear hw; go_simp; try with_reducible rfl
    try simp only [Act.put, zpA, zpB, zpC]
    refine held_pure (v := ?_) rfl rfl (by simp [Region.wanted, yielded]) hS ?_ ?_
    rotate_left
    ·intro w hw; go_simp; try with_reducible rfl
    try simp only [Act.put, zpA, zpB, zpC]
    refine held_end ?_
    clear HA HC
    go_wp2
    go_ret
    exact ⟨false, rfl, ⟨(fun h => by cases h), (fun h => absurd HY.out h)⟩, HB.out⟩
   ·have HY := Lib.hid (show s' ∉ (txc l).take (k + 1) by
     rw [List.take_add_one, Hb1.out]
     intro h
     rcases List.mem_append.1 h with h | h
     ·exact Hno.out h
     ·exact hss (List.mem_singleton.1 h).symm)
    have hsl : ¬ s1.toList = s'.toList := by
     intro h
     have h2 := text_eqb2 s1 s'
     rw [h] at h2
     simp at h2
     exact hss h2
    have hsb : (s1.toList == s'.toList) = false := by simpa using hsl
    clear hss
    go_wp2
    have hS : wr.drew = wr.drew := rfl
    refine wp_region_keep (fun w' => w' = wr.drew) [(0, false), (1, false), (2, false), (3, false), (4, false), (5, false), (6, false), (7, false), (8, false), (9, false), (10, false)] (by kernel_rfl) (by kernel_rfl) (by kernel_rfl) (fun d _ _ _ _ h => by cases d <;> exact h) ?_
    iterate 4
     refine held_pure (v := ?_) rfl rfl (by simp [Region.wanted, yielded]) hS ?_ ?_
     rotate_left
     ·intro w hw; go_simp; try with_reducible rfl
     try simp only [Act.put, zpA, zpB, zpC]
    refine held_pure (v := ?_) rfl rfl (by simp [Region.wanted, yielded]) hS ?_ ?_
    rotate_left
    ·intro w hw; have c0 := HA.out w hw; clear hw; go_simp; try with_reducible rfl
    try simp only [Act.put, zpA, zpB, zpC]
    iterate 4
     refine held_pure (v := ?_) rfl rfl (by simp [Region.wanted, yielded]) hS ?_ ?_
     rotate_left
     ·intro w hw; go_simp; try with_reducible rfl
     try simp only [Act.put, zpA, zpB, zpC]
    refine held_pure (v := ?_) rfl rfl (by simp [Region.wanted, yielded]) hS ?_ ?_
    rotate_left
    ·intro w hw; have c0 := HC.out w hw; clear hw; go_simp; try with_reducible rfl
    try simp only [Act.put, zpA, zpB, zpC]
    refine held_pure (v := ?_) rfl rfl (by simp [Region.wanted, yielded]) hS ?_ ?_
    rotate_left
    ·intro w hw; go_simp; try with_reducible rfl
    try simp only [Act.put, zpA, zpB, zpC]
    refine held_end ?_
    clear HA HC
    go_wp2
    go_roundw
    case rel => exact ⟨k + 1, hlt, by go_num, HY, HB⟩
    case measure => simp [intOf]; omega
  ·obtain rfl : k = i := by omega
   have d1 : decide ((k : Int) < (k : Int)) = false := by simp
   go_wp2
   go_ret
   exact ⟨true, rfl, ⟨(fun _ => Hno.out), (fun _ => rfl)⟩, HB.out⟩
end Go.Proofs.YtnkgchmkmhdcaaaGreatDoor
namespace Go.Proofs.YtnkgchmkmhdcaaaGreatDoor
open Go.RowKit
theorem putText_eq (s : ByteArray) : leb s.size ++ s.data.toList = putText s := by
 unfold putText bts
 rw [Array.length_toList]
 rfl
structure StrK (w : World) (g : Nat) (X : Option Addr) (xn xc : Nat) (xs : List UInt8) (base : Nat) (A : Option Addr) (n c : Nat) (l : List Cl) (out : List UInt8) (wr : World) : Prop where
 wk : Wk wr g X xn xc xs out
 own : wr.ownsRow base 23 3 (.slice A n c) n (cls l)
 grown : w.grownBy wr (some g)
section
variable {w wr w' : World} {g : Nat} {X : Option Addr} {xn xc : Nat} {xs : List UInt8} {base : Nat} {A : Option Addr} {n c : Nat} {l : List Cl} {out : List UInt8} {e : Ending} {o2 : List UInt8}
theorem StrK.on (h : StrK w g X xn xc xs base A n c l out wr) (hb : Below wr.heap.size wr w') : StrK w g X xn xc xs base A n c l out w' := ⟨h.wk.on hb, own_below h.own hb, grown_trans h.grown (grown_of_below hb)⟩
theorem StrK.step (h : StrK w g X xn xc xs base A n c l out wr) (hp : WalkP g X xn xc xs out o2 wr e w') : StrK w g X xn xc xs base A n c l (out ++ o2) w' :=
 ⟨hp.2.1, own_grown h.own h.wk.blk (by decide) hp.2.2, grown_trans h.grown hp.2.2⟩
end
set_option maxRecDepth 100000 in
set_option maxHeartbeats 8000000 in
theorem rstrings_any (g : Nat) (X : Option Addr) (xn xc : Nat) (xs pre : List UInt8) (A : Option Addr) (n c base : Nat) (l : List Cl) (w : World) (h : Wk w g X xn xc xs pre) (ho : w.ownsRow base 23 3 (.slice A n c) n (cls l)) (hn : n ≤ 1048576) (hsz : ∀ s ∈ txc l, s.size ≤ 1048576) (hl : pre.length + (putD (txc l)).length ≤ 4611686018400000000) :
  Calls Tryz.prog 255 #[.pointer (some ⟨g, 0, none⟩), .slice A n c] w (WalkP g X xn xc xs pre (putD (txc l)) w) := by
 have hln : (txc l).length = n := by have := cls_len (own_reads ho); simpa using this
 have H := Lib.hid (show StrK w g X xn xc xs base A n c l pre w from ⟨h, ho, grown_refl _ _⟩)
 have Hln := Lib.hid hln
 have Hsz := Lib.hid hsz
 have hpd := putD_eq (txc l)
 have Hpd := Lib.hid hpd
 have hnt : ∀ k, k < n → ∃ s, (txc l)[k]? = some s := fun k hk => ⟨_, List.getElem?_eq_getElem (by rw [hln]; exact hk)⟩
 have Hnt := Lib.hid hnt
 have hdn := dct_len (txc l)
 rw [hln] at hdn
 have Hl := Lib.hid hl
 clear h ho hln hsz hpd hnt hl
 go_enter Tryz.func255, Tryz.ntmps255
 go_wp2
 go_loopw [4, 5] (fun u v wr => ∃ i nd : Nat, i ≤ n ∧ nd ≤ i ∧ u = .int .i64 (nd : Int) ∧ v = .int .i64 (i : Int) ∧ Hid (nd = (dct ((txc l).take i)).length) ∧ Hid (StrK w g X xn xc xs base A n c l pre wr)) (fun _ v _ => n - (intOf v).toNat)
 case atStart => exact ⟨0, 0, Nat.zero_le _, Nat.zero_le _, rfl, rfl, Lib.hid rfl, H⟩
 case round =>
  clear H
  obtain ⟨i, nd, hi, hni, rfl, rfl, Hnd, H⟩ := hrel
  by_cases hin : i < n
  ·have d1 : decide ((i : Int) < (n : Int)) = true := by simp; omega
   obtain ⟨s, hs⟩ := Hnt.out i hin
   have Hs := Lib.hid hs
   clear hs
   go_wp2_with fail
   with_reducible refine (rfirst_any A n c l i s Hs.out _ (own_reads H.out.own) (by omega)).mono ?_
   rintro e w1 ⟨b, rfl, hbi, hb1⟩
   replace H := Lib.hid (H.out.on hb1)
   clear hb1
   by_cases hmem : s ∈ (txc l).take i
   ·have Hq := Lib.hid (show nd = (dct ((txc l).take (i + 1))).length by rw [Hnd.out, dct_take_in Hs.out hmem])
    obtain rfl : b = false := by cases b; rfl; exact absurd hmem (hbi.1 rfl)
    clear hmem hbi
    go_wp2
    go_roundw
    case rel => exact ⟨i + 1, nd, hin, by omega, rfl, by go_num, Hq, H⟩
    case measure => simp [intOf]; omega
   ·have Hq := Lib.hid (show nd + 1 = (dct ((txc l).take (i + 1))).length by rw [Hnd.out, dct_take_out Hs.out hmem, List.length_append]; rfl)
    obtain rfl : b = true := hbi.2 hmem
    clear hmem hbi
    go_wp2
    go_roundw
    case rel => exact ⟨i + 1, nd + 1, hin, by omega, by go_num, by go_num, Hq, H⟩
    case measure => simp [intOf]; omega
  ·obtain rfl : i = n := by omega
   have d1 : decide ((i : Int) < (i : Int)) = false := by simp
   have hnD : nd = (dct (txc l)).length := by rw [Hnd.out, List.take_of_length_le (by rw [Hln.out]; exact Nat.le_refl _)]
   have HnD := Lib.hid hnD
   obtain ⟨D, hD⟩ : ∃ D, dct (txc l) = D := ⟨_, rfl⟩
   have HD := Lib.hid hD
   have Hl2 := Lib.hid (show pre.length + (leb nd ++ (D.flatMap putText ++ (txc l).flatMap fun s => leb (numOf D s))).length ≤ 4611686018400000000 by rw [hnD, ← hD, ← Hpd.out]; exact Hl.out)
   have Hpd2 := Lib.hid (show putD (txc l) = leb nd ++ (D.flatMap putText ++ (txc l).flatMap fun s => leb (numOf D s)) by rw [hnD, ← hD, ← Hpd.out])
   clear hnD hD
   go_wp2_with fail
   refine (rnumber_any g X xn xc xs pre nd _ (by first | rfl | (simp only [IntKind.wrap_u64]; omega)) (by omega) _ H.out.wk (by have := Hl.out; omega)).mono ?_
   intro e w1 hp1
   obtain rfl := hp1.1
   replace H := Lib.hid (H.out.step hp1)
   clear hp1 Hl Hpd d1
   go_wp2
   go_loopw [6] (fun v wr => ∃ j : Nat, j ≤ i ∧ v = .int .i64 (j : Int) ∧ Hid (StrK w g X xn xc xs base A i c l (pre ++ (leb nd ++ (dct ((txc l).take j)).flatMap putText)) wr)) (fun v _ => i - (intOf v).toNat)
   case atStart => exact ⟨0, Nat.zero_le _, rfl, Lib.hid (by rw [List.take_zero, dct_nil, List.flatMap_nil, List.append_nil]; exact H.out)⟩
   case round =>
    clear H
    obtain ⟨j, hj, rfl, H⟩ := hrel
    by_cases hji : j < i
    ·have d1 : decide ((j : Int) < (i : Int)) = true := by simp; omega
     obtain ⟨s, hs⟩ := Hnt.out j hji
     have Hs := Lib.hid hs
     have hss : s.size ≤ 1048576 := Hsz.out s (List.mem_of_getElem? hs)
     clear hs
     go_wp2_with fail
     with_reducible refine (rfirst_any A i c l j s Hs.out _ (own_reads H.out.own) (by omega)).mono ?_
     rintro e w2 ⟨b, rfl, hbi, hb1⟩
     replace H := Lib.hid (H.out.on hb1)
     clear hb1
     by_cases hmem : s ∈ (txc l).take j
     ·have Hq := Lib.hid (dct_take_in Hs.out hmem)
      obtain rfl : b = false := by cases b; rfl; exact absurd hmem (hbi.1 rfl)
      clear hmem hbi
      go_wp2
      go_roundw
      case rel => exact ⟨j + 1, hji, by go_num, Lib.hid (by rw [Hq.out]; exact H.out)⟩
      case measure => simp [intOf]; omega
     ·have Hq := Lib.hid (dct_take_out Hs.out hmem)
      have hpf := dct_prefix (txc l) (j + 1)
      rw [HD.out, Hq.out] at hpf
      obtain ⟨r, hr⟩ := hpf
      have hlen : (pre ++ (leb nd ++ (dct ((txc l).take j)).flatMap putText)).length + 10 + s.size ≤ 4611686018427387904 := by
       have := Hl2.out
       rw [← hr] at this
       simp only [List.length_append, List.flatMap_append] at this ⊢
       omega
      have hej : (j : Int) < (i : Int) := by omega
      obtain ⟨ad, u, m, s1, rfl, -, hb1, -, -, g2⟩ := cls_at (own_reads H.out.own) hji
      obtain rfl : s1 = s := Option.some.inj ((txc_at hb1).symm.trans Hs.out)
      obtain rfl : b = true := hbi.2 hmem
      clear hmem hr hb1 hbi
      go_wp2_with fail
      refine (rtext_any g X xn xc xs _ s1 (by simp only [maxLen]; omega) _ H.out.wk hlen).mono ?_
      intro e w3 hp3
      obtain rfl := hp3.1
      have H3 := Lib.hid (H.out.step hp3)
      rw [List.append_assoc, List.append_assoc, putText_eq] at H3
      replace H := Lib.hid (show StrK w g X xn xc xs base (some ad) i c l (pre ++ (leb nd ++ (dct ((txc l).take (j + 1))).flatMap putText)) w3 by
       rw [Hq.out, List.flatMap_append, List.flatMap_cons, List.flatMap_nil, List.append_nil]
       exact H3.out)
      clear hp3 hlen g2 H3
      go_wp2
      go_roundw
      case rel => exact ⟨j + 1, hji, by go_num, H⟩
      case measure => simp [intOf]; omega
    ·obtain rfl : j = i := by omega
     have d1 : decide ((j : Int) < (j : Int)) = false := by simp
     rw [List.take_of_length_le (by rw [Hln.out]; exact Nat.le_refl _), HD.out] at H
     go_wp2
     go_loopw [7] (fun v wr => ∃ q : Nat, q ≤ j ∧ v = .int .i64 (q : Int) ∧ Hid (StrK w g X xn xc xs base A j c l (pre ++ (leb nd ++ (D.flatMap putText ++ ((txc l).take q).flatMap fun s => leb (numOf D s)))) wr)) (fun v _ => j - (intOf v).toNat)
     case atStart => exact ⟨0, Nat.zero_le _, rfl, Lib.hid (by rw [List.take_zero, List.flatMap_nil, List.append_nil]; exact H.out)⟩
     case round =>
      clear H d1
      obtain ⟨q, hq, rfl, H⟩ := hrel
      by_cases hqj : q < j
      ·have d1 : decide ((q : Int) < (j : Int)) = true := by simp; omega
       obtain ⟨s, hs⟩ := Hnt.out q hqj
       have Hs := Lib.hid hs
       clear hs
       generalize wr = W at *
       go_wp2
       go_loopw [8, 9] (fun u v wr => ∃ k kd : Nat, k ≤ q ∧ kd ≤ k ∧ u = .int .i64 (kd : Int) ∧ v = .int .i64 (k : Int) ∧ Hid (s ∉ (txc l).take k) ∧ Hid (kd = (dct ((txc l).take k)).length) ∧ Hid (StrK w g X xn xc xs base A j c l (pre ++ (leb nd ++ (D.flatMap putText ++ ((txc l).take q).flatMap fun s => leb (numOf D s)))) wr)) (fun _ v _ => j - (intOf v).toNat)
       case atStart => exact ⟨0, 0, Nat.zero_le _, Nat.zero_le _, rfl, rfl, Lib.hid (by simp), Lib.hid rfl, H⟩
       case round =>
        clear H
        obtain ⟨k, kd, hkq, hkk, rfl, rfl, Hno, Hkd, H⟩ := hrel
        have hkj : k < j := by omega
        have e1 : (k : Int) < (j : Int) := by omega
        have e2 : (q : Int) < (j : Int) := by omega
        have hr2 := own_reads H.out.own
        obtain ⟨ad, u, m, s1, rfl, -, hb1, -, -, g2⟩ := cls_at hr2 hkj
        obtain ⟨ad', u', m', s', had, -, hb2, -, -, k2⟩ := cls_at hr2 hqj
        obtain rfl := Option.some.inj had
        obtain rfl : s' = s := Option.some.inj ((txc_at hb2).symm.trans Hs.out)
        have HA := Lib.hid (show ∀ w', w' = wr.drew → w'.cell? ⟨(ad.add (k * 3)).block, (ad.add (k * 3)).off + 2, none⟩ = some (.string s1) from fun w' h => by rw [h]; exact g2)
        have HC := Lib.hid (show ∀ w', w' = wr.drew → w'.cell? ⟨(ad.add (q * 3)).block, (ad.add (q * 3)).off + 2, none⟩ = some (.string s') from fun w' h => by rw [h]; exact k2)
        have Hb1 := Lib.hid (txc_at hb1)
        replace H := Lib.hid (H.out.on (show Below wr.heap.size wr wr.drew from (Below.refl _ _).drew))
        clear hr2 hb1 hb2 g2 k2 had
        by_cases hss : s1 = s'
        ·subst hss
         have hsb : (s1.toList == s1.toList) = true := by simp
         have hsn : (s1.toList != s1.toList) = false := by simp
         go_wp2
         have hS : wr.drew = wr.drew := rfl
         refine wp_region_keep (fun w' => w' = wr.drew) [(0, false), (1, false), (2, false), (3, false), (4, false), (5, false), (6, false), (7, false), (8, false), (9, false), (10, false)] (by kernel_rfl) (by kernel_rfl) (by kernel_rfl) (fun d _ _ _ _ h => by cases d <;> exact h) ?_
         iterate 4
          refine held_pure (v := ?_) rfl rfl (by simp [Region.wanted, yielded]) hS ?_ ?_
          rotate_left
          ·intro w hw; go_simp; try with_reducible rfl
          try simp only [Act.put, zpA, zpB, zpC]
         refine held_pure (v := ?_) rfl rfl (by simp [Region.wanted, yielded]) hS ?_ ?_
         rotate_left
         ·intro w hw; have c0 := HA.out w hw; clear hw; go_simp; try with_reducible rfl
         try simp only [Act.put, zpA, zpB, zpC]
         iterate 4
          refine held_pure (v := ?_) rfl rfl (by simp [Region.wanted, yielded]) hS ?_ ?_
          rotate_left
          ·intro w hw; go_simp; try with_reducible rfl
          try simp only [Act.put, zpA, zpB, zpC]
         refine held_pure (v := ?_) rfl rfl (by simp [Region.wanted, yielded]) hS ?_ ?_
         rotate_left
         ·intro w hw; have c0 := HC.out w hw; clear hw; go_simp; try with_reducible rfl
         try simp only [Act.put, zpA, zpB, zpC]
         refine held_pure (v := ?_) rfl rfl (by simp [Region.wanted, yielded]) hS ?_ ?_
         rotate_left
         ·intro w hw; go_simp; try with_reducible rfl
         try simp only [Act.put, zpA, zpB, zpC]
         refine held_end ?_
         clear HA HC
         have hnum : numOf D s1 = kd := by
          have := place_first Hb1.out Hno.out
          rw [HD.out, ← Hkd.out] at this
          unfold numOf
          rw [this]
          rfl
         have Hst := Lib.hid (show ((txc l).take (q + 1)).flatMap (fun s => leb (numOf D s)) = ((txc l).take q).flatMap (fun s => leb (numOf D s)) ++ leb kd by
          rw [List.take_add_one, Hs.out]
          simp [hnum])
         have hlen : (pre ++ (leb nd ++ (D.flatMap putText ++ ((txc l).take q).flatMap fun s => leb (numOf D s)))).length + 10 ≤ 4611686018427387904 := by
          have h1 : (((txc l).take q).flatMap fun s => leb (numOf D s)).length ≤ ((txc l).flatMap fun s => leb (numOf D s)).length := by
           conv => rhs; rw [← List.take_append_drop q (txc l), List.flatMap_append, List.length_append]
           omega
          have := Hl2.out
          simp only [List.length_append] at this ⊢
          omega
         clear hnum hsb hsn
         go_wp2_with fail
         refine (rnumber_any g X xn xc xs _ kd _ (by first | rfl | (simp only [IntKind.wrap_u64]; omega)) (by omega) _ H.out.wk hlen).mono ?_
         intro e w3 hp3
         obtain rfl := hp3.1
         have H3 := H.out.step hp3
         replace H := Lib.hid (show StrK w g X xn xc xs base (some ad) j c l (pre ++ (leb nd ++ (D.flatMap putText ++ ((txc l).take (q + 1)).flatMap fun s => leb (numOf D s)))) w3 by
          rw [Hst.out]
          simpa only [List.append_assoc] using H3)
         clear hp3 hlen H3
         go_wp2
         go_roundw
         case rel => exact ⟨q + 1, hqj, by go_num, H⟩
         case measure => simp [intOf]; omega
        ·have hkq2 : k < q := by
          rcases Nat.lt_or_eq_of_le hkq with h | h
          ·exact h
          ·subst h; exact absurd (Option.some.inj (Hb1.out.symm.trans Hs.out)) hss
         have HY := Lib.hid (show s' ∉ (txc l).take (k + 1) by
          rw [List.take_add_one, Hb1.out]
          intro h
          rcases List.mem_append.1 h with h | h
          ·exact Hno.out h
          ·exact hss (List.mem_singleton.1 h).symm)
         have hsl : ¬ s1.toList = s'.toList := by
          intro h
          have h2 := text_eqb2 s1 s'
          rw [h] at h2
          simp at h2
          exact hss h2
         have hsb : (s1.toList == s'.toList) = false := by simpa using hsl
         have hsn : (s1.toList != s'.toList) = true := by simpa using hsl
         clear hss
         go_wp2
         have hS : wr.drew = wr.drew := rfl
         refine wp_region_keep (fun w' => w' = wr.drew) [(0, false), (1, false), (2, false), (3, false), (4, false), (5, false), (6, false), (7, false), (8, false), (9, false), (10, false)] (by kernel_rfl) (by kernel_rfl) (by kernel_rfl) (fun d _ _ _ _ h => by cases d <;> exact h) ?_
         iterate 4
          refine held_pure (v := ?_) rfl rfl (by simp [Region.wanted, yielded]) hS ?_ ?_
          rotate_left
          ·intro w hw; go_simp; try with_reducible rfl
          try simp only [Act.put, zpA, zpB, zpC]
         refine held_pure (v := ?_) rfl rfl (by simp [Region.wanted, yielded]) hS ?_ ?_
         rotate_left
         ·intro w hw; have c0 := HA.out w hw; clear hw; go_simp; try with_reducible rfl
         try simp only [Act.put, zpA, zpB, zpC]
         iterate 4
          refine held_pure (v := ?_) rfl rfl (by simp [Region.wanted, yielded]) hS ?_ ?_
          rotate_left
          ·intro w hw; go_simp; try with_reducible rfl
          try simp only [Act.put, zpA, zpB, zpC]
         refine held_pure (v := ?_) rfl rfl (by simp [Region.wanted, yielded]) hS ?_ ?_
         rotate_left
         ·intro w hw; have c0 := HC.out w hw; clear hw; go_simp; try with_reducible rfl
         try simp only [Act.put, zpA, zpB, zpC]
         refine held_pure (v := ?_) rfl rfl (by simp [Region.wanted, yielded]) hS ?_ ?_
         rotate_left
         ·intro w hw; go_simp; try with_reducible rfl
         try simp only [Act.put, zpA, zpB, zpC]
         refine held_end ?_
         clear HA HC
         go_wp2_with fail
         with_reducible refine (rfirst_any (some ad) j c l k s1 Hb1.out _ (own_reads H.out.own) (by omega)).mono ?_
         rintro e w2 ⟨b, rfl, hbi, hb1⟩
         replace H := Lib.hid (H.out.on hb1)
         clear hb1 hsl hsb hsn
         by_cases hmem : s1 ∈ (txc l).take k
         ·have Hq := Lib.hid (show kd = (dct ((txc l).take (k + 1))).length by rw [Hkd.out, dct_take_in Hb1.out hmem])
          obtain rfl : b = false := by cases b; rfl; exact absurd hmem (hbi.1 rfl)
          clear hmem hbi
          go_wp2
          go_roundw
          case rel => exact ⟨k + 1, kd, hkq2, by omega, rfl, by go_num, HY, Hq, H⟩
          case measure => simp [intOf]; omega
         ·have Hq := Lib.hid (show kd + 1 = (dct ((txc l).take (k + 1))).length by rw [Hkd.out, dct_take_out Hb1.out hmem, List.length_append]; rfl)
          obtain rfl : b = true := hbi.2 hmem
          clear hmem hbi
          go_wp2
          go_roundw
          case rel => exact ⟨k + 1, kd + 1, hkq2, by omega, by go_num, by go_num, HY, Hq, H⟩
          case measure => simp [intOf]; omega
      ·obtain rfl : q = j := by omega
       have d1 : decide ((q : Int) < (q : Int)) = false := by simp
       rw [List.take_of_length_le (by rw [Hln.out]; exact Nat.le_refl _), ← Hpd2.out] at H
       go_wp2
       go_end0
       exact ⟨rfl, H.out.wk, H.out.grown⟩
end Go.Proofs.YtnkgchmkmhdcaaaGreatDoor
