/- Part 25 of the walks, merged: each text under its own heading. Conditions: none of its own; each lemma states what it asks. -/
import Derived.Test.YtjpjalmilfgckaaGreatDoorBk22
import Derived.Test.YtjpjalmilfgckaaGreatDoorBk23
import Derived.Test.YtjpjalmilfgckaaGreatDoorBk24
set_option linter.unusedVariables false
set_option linter.unusedSimpArgs false
namespace Go.Proofs.YtjpjalmilfgckaaGreatDoor
open Go.RowKit
def DecP (r : Got Ba) (w : World) (e : Ending) (w' : World) : Prop :=
 Below w.heap.size w w' ∧ match r with
  | .ok b => ∃ I m d, e = .returned (.tuple #[.agg #[.int .i64 b.1, .int .i64 b.2.1, .slice I m d], .int .i64 0]) ∧ ItemsOwn w' w.heap.size I m d b.2.2
  | .error er => e = .returned (.tuple #[.agg #[.int .i64 0, .int .i64 0, .slice none 0 0], .int .i64 (er : Int)]) ∧ er ≠ 0
theorem ItemsOwn.mono {w : World} {b b2 n c : Nat} {A : Option Addr} {l : List It} (h : ItemsOwn w b A n c l) (hb : b2 ≤ b) : ItemsOwn w b2 A n c l := by
 obtain ⟨hs, h1, h2⟩ := h
 exact ⟨hs, own_mono h1 hb, h2.1, fun j g it h3 h4 => own_mono (h2.2 j g it h3 h4) hb⟩
theorem same_set3b {w : World} {g : Nat} {t : TypeId} {a b c : Value} (h : Blk w g t #[a, b, c]) : Blk (((w.setCell ⟨g, 0, none⟩ a).setCell ⟨g, 1, none⟩ b).setCell ⟨g, 2, none⟩ c) g t #[a, b, c] := by
 have := ((h.set_ 0 a).set_ 1 b).set_ 2 c
 simpa using this
def decV (r : Got Ba) : Int × Int × Int := match r with
 | .ok b => (0, b.1, b.2.1)
 | .error er => ((er : Int), 0, 0)
set_option maxRecDepth 100000 in
set_option maxHeartbeats 1000000 in
theorem bdec_any (A : Option Addr) (n c : Nat) (cs : List Co) (B : Option Addr) (m cb : Nat) (xs : List UInt8) (w : World) (hr : Reads w w.heap.size 7 A n (cos cs)) (hn : n ≤ maxLen) (hx : Reads w w.heap.size 1 B m (u8s xs)) (hm : m ≤ cb) (hc : cb ≤ maxLen) (hT : Tab2 w.heap.size w) :
  Calls Tryz.prog 36 #[.slice A n c, .slice B m cb] w (DecP (decB cs xs) w) := by
 have hin := callFunc_in Tryz.func94 (by kernel_rfl) (by kernel_rfl)
 obtain ⟨b, hb⟩ : ∃ b, b = w.heap.size := ⟨_, rfl⟩
 obtain ⟨W2, hW2⟩ : ∃ W2, W2 = ((w.alloc (.cells #[.slice A n c] 32)).alloc (.cells #[.slice B m cb] 35)).alloc (.cells #[.int .i64 0, .int .i64 0, .slice none 0 0] 30) := ⟨_, rfl⟩
 obtain ⟨W3, hW3⟩ : ∃ W3, W3 = W2.alloc (.cells #[.int .i64 0] 36) := ⟨_, rfl⟩
 have hs2 : W2.heap.size = b + 3 := by rw [hW2, hb]; simp
 have hs3 : W3.heap.size = b + 4 := by rw [hW3]; simp [hs2]
 have hw3 : Below b w W3 := by rw [hW3, hW2, hb]; exact bal (bal (bal (bal (Below.refl _ _) _) _) _) _
 have B0 : Blk W3 b 32 #[.slice A n c] := by
  have := (((Blk.new w 32 #[.slice A n c]).alloc (.cells #[.slice B m cb] 35)).alloc (.cells #[.int .i64 0, .int .i64 0, .slice none 0 0] 30)).alloc (.cells #[.int .i64 0] 36)
  rw [hW3, hW2, hb]
  exact this
 have B1 : Blk W3 (b + 1) 35 #[.slice B m cb] := by
  have := ((Blk.new (w.alloc (.cells #[.slice A n c] 32)) 35 #[.slice B m cb]).alloc (.cells #[.int .i64 0, .int .i64 0, .slice none 0 0] 30)).alloc (.cells #[.int .i64 0] 36)
  rw [hW3, hW2, hb]
  simpa using this
 have B2 : Blk W3 (b + 2) 30 #[.int .i64 0, .int .i64 0, .slice none 0 0] := by
  have := (Blk.new ((w.alloc (.cells #[.slice A n c] 32)).alloc (.cells #[.slice B m cb] 35)) 30 #[.int .i64 0, .int .i64 0, .slice none 0 0]).alloc (.cells #[.int .i64 0] 36)
  rw [hW3, hW2, hb]
  simpa using this
 have B3 : Blk W3 (b + 3) 36 #[.int .i64 0] := by
  have := Blk.new W2 36 #[.int .i64 0]
  rw [hs2] at this
  rw [hW3]
  exact this
 have HK := Lib.hid (caught_any 94 #[.pointer (some ⟨b, 0, none⟩), .pointer (some ⟨b + 1, 0, none⟩), .pointer (some ⟨b + 2, 0, none⟩)] W2 (fun E w' => E = (decV (decB cs xs)).1 ∧ (∃ I k d, Blk w' (b + 2) 30 #[.int .i64 (decV (decB cs xs)).2.1, .int .i64 (decV (decB cs xs)).2.2, .slice I k d] ∧ (∀ q, decB cs xs = .ok q → ItemsOwn w' b I k d q.2.2) ∧ (∀ er, decB cs xs = .error er → (I = none ∧ k = 0 ∧ d = 0) ∧ er ≠ 0)) ∧ Below b w w') hin (by
  rw [← hW3]
  refine (dec1_any b A n c cs B m cb xs W3 hs3 B0 B1 B2 B3 (by rw [← hb] at hr; exact hr.below hw3) hn (by rw [← hb] at hx; exact hx.below hw3) hm hc (by rw [← hb] at hT; exact hT.keep hw3)).mono ?_
  rintro e w' ⟨hm, h3, h4⟩
  refine ⟨(decV (decB cs xs)).1, ?_, ⟨rfl, ?_, hw3.trans h4⟩, by rw [hs2]; exact h3⟩
  ·rcases hd : decB cs xs with er | q
   ·rw [hd] at hm
    obtain ⟨rfl, he, -⟩ := hm
    exact (endN_not (by show (er : Int) ≠ 0; omega)).symm
   ·rw [hd] at hm
    exact hm.1
  ·rcases hd : decB cs xs with er | q
   ·rw [hd] at hm
    exact ⟨none, 0, 0, hm.2.2, (fun q h => by cases h), (fun e h => by cases h; exact ⟨⟨rfl, rfl, rfl⟩, hm.2.1⟩)⟩
   ·rw [hd] at hm
    obtain ⟨-, I, k, d, g1, g2⟩ := hm
    exact ⟨I, k, d, g1, (fun q h => by cases h; exact g2.mono (by omega)), (fun e h => by cases h)⟩))
 have Hs2 := Lib.hid hs2
 have Hb := Lib.hid hb
 clear hr hT hw3 B0 B1 B2 B3 hs3 hs2 hW3 hx
 go_enter Tryz.func36, Tryz.ntmps36
 obtain ⟨R, hR⟩ : ∃ R, R = decB cs xs := ⟨_, rfl⟩
 rw [← hR] at HK ⊢
 obtain ⟨q, hq⟩ : ∃ q, q = decV R := ⟨_, rfl⟩
 rw [← hq] at HK
 have Hq := Lib.hid hq
 clear hR hq
 obtain ⟨E, V, S⟩ := q
 simp only at HK
 go_wp2_with fail
 rw [← hW2, ← hb]
 have Hw := Lib.hid hW2
 clear hW2 hb
 with_reducible refine HK.out.mono ?_
 rintro e w1 ⟨E2, w2, rfl, ⟨rfl, ⟨I, k, d, g1, g2, g3⟩, g5⟩, hE, rfl⟩
 have H1 := Lib.hid (g1.far (p := ⟨W2.heap.size, 0, none⟩) (by have := Hs2.out; show b + 2 ≠ W2.heap.size; omega) (.int .i64 E2))
 have HI := Lib.hid (show ∀ q, R = .ok q → ItemsOwn (w2.setCell ⟨W2.heap.size, 0, none⟩ (.int .i64 E2)) b I k d q.2.2 from fun q h => (g2 q h).far hE (by decide) (by decide) 0 _)
 have HE := Lib.hid g3
 have HB := Lib.hid (g5.setCell (p := ⟨W2.heap.size, 0, none⟩) (by have := Hs2.out; show b ≤ W2.heap.size; omega) (.int .i64 E2))
 clear g1 g2 g3 g5 hE HK
 generalize w2.setCell ⟨W2.heap.size, 0, none⟩ (.int .i64 E2) = w5 at *
 have k0 := H1.out.cell 0
 have k1 := H1.out.cell 1
 have k2 := H1.out.cell 2
 have f0 := H1.out.frozen 0
 have f1 := H1.out.frozen 1
 have f2 := H1.out.frozen 2
 rw [show b + 1 + 1 = b + 2 from rfl]
 go_wp2
 have H2 := same_set3b H1.out
 have c0 := H2.cell 0
 have c1 := H2.cell 1
 have c2 := H2.cell 2
 have HI2 := Lib.hid (show ∀ q, R = .ok q → ItemsOwn (((w5.setCell ⟨b + 2, 0, none⟩ (.int .i64 V)).setCell ⟨b + 2, 1, none⟩ (.int .i64 S)).setCell ⟨b + 2, 2, none⟩ (.slice I k d)) b I k d q.2.2 from fun q h => (((HI.out q h).far H1.out (by decide) (by decide) 0 _).far (H1.out.set_ 0 _) (by decide) (by decide) 1 _).far ((H1.out.set_ 0 _).set_ 1 _) (by decide) (by decide) 2 _)
 have HB2 := Lib.hid (((HB.out.setCell (p := ⟨b + 2, 0, none⟩) (by show b ≤ b + 2; omega) (.int .i64 V)).setCell (p := ⟨b + 2, 1, none⟩) (by show b ≤ b + 2; omega) (.int .i64 S)).setCell (p := ⟨b + 2, 2, none⟩) (by show b ≤ b + 2; omega) (.slice I k d))
 refine bodyPost_ret (v := .tuple #[.agg #[.int .i64 V, .int .i64 S, .slice I k d], .int .i64 E2]) (by rw [results_cell_tmp rfl]; simp [go_sem, c0, c1, c2]) rfl ?_
 refine ⟨by rw [← Hb.out]; exact HB2.out, ?_⟩
 rw [← Hb.out]
 rcases R with er | q
 ·obtain ⟨⟨rfl, rfl, rfl⟩, he⟩ := HE.out er rfl
  have := Hq.out
  cases this
  exact ⟨rfl, he⟩
 ·have := Hq.out
  cases this
  exact ⟨I, k, d, rfl, HI2.out q rfl⟩
end Go.Proofs.YtjpjalmilfgckaaGreatDoor
namespace Go.Proofs.YtjpjalmilfgckaaGreatDoor
open Go.RowKit
theorem numD_case (most beyond : Nat) (xs : List UInt8) : (∃ N sz, get xs = (N, sz, 0) ∧ sz ≤ xs.length ∧ N < 18446744073709551616 ∧ numD most beyond xs = if N ≤ most then .ok (N, xs.drop sz) else .error beyond) ∨ ∃ er, get xs = (0, 0, er) ∧ er ≠ 0 ∧ numD most beyond xs = .error er := by
 rcases get_only xs with ⟨N, hg, hN, hl, -⟩ | ⟨er, hg, he, hel⟩
 ·refine .inl ⟨N, _, hg, hl, hN, ?_⟩
  unfold numD
  rw [hg]
  simp
 ·refine .inr ⟨er, hg, he, ?_⟩
  unfold numD
  rw [hg]
  simp [he]
theorem beq_comm' (a b : List UInt8) : (a == b) = (b == a) := by
 cases h : (b == a) with
 | true => rw [eq_of_beq h]; simp
 | false =>
  rw [beq_eq_false_iff_ne] at h ⊢
  exact fun e => h e.symm
def HeadD (r : Got (Nat × Nat × Nat × List UInt8)) (body : List UInt8) (w : World) (e : Ending) (w' : World) : Prop :=
 Below w.heap.size w w' ∧ match r with
 | .ok h => ∃ p : Nat, e = .returned (.tuple #[.agg #[.int .i64 (h.1 : Int), .int .i64 (h.2.1 : Int), .slice none 0 0], .int .i64 (h.2.2.1 : Int), .int .i64 (p : Int), .int .i64 0]) ∧ p ≤ body.length ∧ h.2.2.2 = body.drop p ∧ h.2.2.1 ≤ 1048576
 | .error er => e = .returned (.tuple #[.agg #[.int .i64 0, .int .i64 0, .slice none 0 0], .int .i64 0, .int .i64 0, .int .i64 (er : Int)]) ∧ er ≠ 0
set_option maxRecDepth 100000 in
set_option maxHeartbeats 8000000 in
theorem rhead_any (B : Option Addr) (m c : Nat) (xs : List UInt8) (w : World) (hr : Reads w w.heap.size 1 B m (u8s xs)) (hm : m ≤ c) (hc : c ≤ maxLen) :
  Calls Tryz.prog 112 #[.slice B m c] w (HeadD (batD xs) (xs.take (m - 4)) w) := by
 have hxl := reads_len hr
 have Hxl := Lib.hid hxl
 have hcm := hc
 have hc63 : c ≤ 9223372036854775807 := by simp only [maxLen] at hc; omega
 have HB := Lib.hid (bal (bal (Below.refl w.heap.size w) (.cells #[.int .i64 0, .int .i64 0, .slice none 0 0] 30)) (.cells #[.int .i64 0, .int .i64 0, .slice none 0 0] 30))
 have HG := Lib.hid ((Blk.new w 30 #[.int .i64 0, .int .i64 0, .slice none 0 0]).alloc (.cells #[.int .i64 0, .int .i64 0, .slice none 0 0] 30))
 have HP := Lib.hid (Blk.new (w.alloc (.cells #[.int .i64 0, .int .i64 0, .slice none 0 0] 30)) 30 #[.int .i64 0, .int .i64 0, .slice none 0 0])
 have Hr := Lib.hid (hr.on HB.out)
 clear hr hxl hc
 go_enter Tryz.func112, Tryz.ntmps112
 by_cases h4 : m < 4
 ·have d1 : decide ((m : Int) < (4 : Int)) = true := by simp; omega
  have d2 : decide (m < 4) = true := by simp; omega
  have HE := Lib.hid (batD_none (by rw [Hxl.out]; exact h4))
  have k0 := HP.out.cell 0
  have k1 := HP.out.cell 1
  have k2 := HP.out.cell 2
  have f0 := HG.out.frozen 0
  have f1 := HG.out.frozen 1
  have f2 := HG.out.frozen 2
  have g0 := HG.out.cell 0
  have g1 := HG.out.cell 1
  have g2 := HG.out.cell 2
  go_wp2
  refine bodyPost_ret (v := .tuple #[.agg #[.int .i64 0, .int .i64 0, .slice none 0 0], .int .i64 0, .int .i64 0, .int .i64 3]) (by simp [results, Tryz.results112, go_sem, g0, g1, g2]) rfl ?_
  refine ⟨HB.out, ?_⟩
  rw [HE.out]
  exact ⟨rfl, by decide⟩
 ·have d1 : decide ((m : Int) < (4 : Int)) = false := by simp; omega
  have d2 : decide (m < 4) = false := by simp; omega
  have H4 := Lib.hid (show ¬ xs.length < 4 by rw [Hxl.out]; exact h4)
  obtain ⟨k, hk⟩ : ∃ k, k = m - 4 := ⟨_, rfl⟩
  rw [← hk]
  have hsub : (m : Int) - 4 = (k : Int) := by omega
  have Hk := Lib.hid hk
  have hkm : k ≤ m := by omega
  have hki : (k : Int) ≤ (m : Int) := by omega
  have hki2 : (k : Int) ≤ (c : Int) := by omega
  have hkc : k ≤ c := by omega
  have htk := Hr.out.head hkm
  rw [Nat.mul_one, u8s_take] at htk
  have hdr := Hr.out.cut hkm hm
  rw [Nat.mul_one, u8s_drop] at hdr
  obtain ⟨A2, hA2⟩ : ∃ A2, (if c = k then B else Option.map (fun x => x.add k) B) = A2 := ⟨_, rfl⟩
  rw [hA2] at hdr
  have hmk : m - k = 4 := by omega
  rw [hmk] at hdr
  have Hbody := Lib.hid htk
  have Hdr := Lib.hid hdr
  have hkl : k ≤ maxLen := Nat.le_trans hkc hcm
  have hwk := wrap_i64 k (by omega)
  clear hk htk hdr Hr
  go_wp2
  obtain ⟨W1, hW1⟩ : ∃ W1, (w.alloc (.cells #[.int .i64 0, .int .i64 0, .slice none 0 0] 30)).alloc (.cells #[.int .i64 0, .int .i64 0, .slice none 0 0] 30) = W1 := ⟨_, rfl⟩
  rw [hW1] at HB HG HP Hbody Hdr ⊢
  have hps : (w.alloc (.cells #[.int .i64 0, .int .i64 0, .slice none 0 0] 30)).heap.size = w.heap.size + 1 := by simp
  rw [hps] at HP
  clear hps hW1
  have hS : W1.drew = W1.drew := rfl
  refine wp_region_keep (fun w' => w' = W1.drew) [(0, false), (1, false), (2, false), (3, false), (4, false), (5, false), (6, false), (7, false), (8, false), (9, false), (10, false), (11, false)] (by kernel_rfl) (by kernel_rfl) (by kernel_rfl) (fun d _ _ _ _ h => by cases d <;> exact h) ?_
  iterate 12
   refine held_pure (v := ?_) rfl rfl (by simp [Region.wanted, yielded]) hS ?_ ?_
   rotate_left
   ·intro w hw; go_simp; try with_reducible rfl
   try simp only [Act.put, zpA, zpB, zpC]
  refine held_end ?_
  have HB := Lib.hid HB.out.drew
  have HG := Lib.hid HG.out.drew
  have HP := Lib.hid HP.out.drew
  have Hbody := Lib.hid (Hbody.out.on (Below.refl _ _).drew)
  have Hdr := Lib.hid (Hdr.out.on (Below.refl _ _).drew)
  generalize W1.drew = W1 at *
  clear hS
  have hpw := HP.out.lt
  have hsl : crcS (xs.take k) < 4294967296 := crcU_lt 0 _
  have HS := Lib.hid (rsum_any B k c (xs.take k) W1 Hbody.out hkl)
  have HY := Lib.hid (rbytes_any (crcS (xs.take k)) hsl W1)
  clear hsl
  generalize hcs : crcS (xs.take k) = cs1 at HS HY
  have Hcs := Lib.hid hcs
  clear hcs
  go_wp2_with fail
  with_reducible refine HS.out.mono ?_
  rintro e w1 ⟨rfl, rfl⟩
  go_wp2_with fail
  with_reducible refine HY.out.mono ?_
  rintro e w2 ⟨gg, rfl, -, q3, q4⟩
  have HB := Lib.hid (bon HB.out q4)
  have HG := Lib.hid (HG.out.on q4)
  have HP := Lib.hid (HP.out.on q4)
  have Hbody := Lib.hid (Hbody.out.on q4)
  have HKe := Lib.hid (eqBytes_any A2 (some ⟨gg, 0, none⟩) 4 (c - k) 4 4 (xs.drop k) (sumB cs1) _ (Hdr.out.on q4) (own_reads q3))
  clear q3 q4 HS HY Hdr
  go_wp2_with fail
  with_reducible refine HKe.out.mono ?_
  rintro e w3 ⟨rfl, rfl⟩
  cases hsum : (xs.drop k == sumB cs1) with
  | false =>
   have HE := Lib.hid (batD_sum H4.out (by rw [Hxl.out, ← Hk.out, Hcs.out, beq_comm']; exact hsum))
   clear hsum HKe
   have k0 := HP.out.cell 0
   have k1 := HP.out.cell 1
   have k2 := HP.out.cell 2
   have f0 := HG.out.frozen 0
   have f1 := HG.out.frozen 1
   have f2 := HG.out.frozen 2
   have g0 := HG.out.cell 0
   have g1 := HG.out.cell 1
   have g2 := HG.out.cell 2
   go_wp2
   have H2 := same_set3b HG.out
   have c0 := H2.cell 0
   have c1 := H2.cell 1
   have c2 := H2.cell 2
   have HB2 := Lib.hid (((HB.out.setCell (p := ⟨w.heap.size, 0, none⟩) (Nat.le_refl _) (.int .i64 0)).setCell (p := ⟨w.heap.size, 1, none⟩) (Nat.le_refl _) (.int .i64 0)).setCell (p := ⟨w.heap.size, 2, none⟩) (Nat.le_refl _) (.slice none 0 0))
   refine bodyPost_ret (v := .tuple #[.agg #[.int .i64 0, .int .i64 0, .slice none 0 0], .int .i64 0, .int .i64 0, .int .i64 170]) (by simp [results, Tryz.results112, go_sem, c0, c1, c2]) rfl ?_
   refine ⟨HB2.out, ?_⟩
   rw [HE.out]
   exact ⟨rfl, by decide⟩
  | true =>
   have HE := Lib.hid (show (sumB (crcS (xs.take (xs.length - 4))) == xs.drop (xs.length - 4)) = true by rw [Hxl.out, ← Hk.out, Hcs.out, beq_comm']; exact hsum)
   clear hsum HKe
   have hbl := reads_len Hbody.out
   by_cases h3 : k < 3
   ·have d3 : decide ((k : Int) < (3 : Int)) = true := by simp; omega
    have d4 : decide (k < 3) = true := by simp; omega
    have HE := Lib.hid (batD_magic H4.out HE.out (by
     rw [Hxl.out, ← Hk.out, beq_eq_false_iff_ne]
     intro h
     have := congrArg List.length h
     rw [List.length_take, hbl] at this
     simp at this
     omega))
    clear hbl
    have k0 := HP.out.cell 0
    have k1 := HP.out.cell 1
    have k2 := HP.out.cell 2
    have f0 := HG.out.frozen 0
    have f1 := HG.out.frozen 1
    have f2 := HG.out.frozen 2
    have g0 := HG.out.cell 0
    have g1 := HG.out.cell 1
    have g2 := HG.out.cell 2
    go_wp2
    have H2 := same_set3b HG.out
    have c0 := H2.cell 0
    have c1 := H2.cell 1
    have c2 := H2.cell 2
    have HB2 := Lib.hid (((HB.out.setCell (p := ⟨w.heap.size, 0, none⟩) (Nat.le_refl _) (.int .i64 0)).setCell (p := ⟨w.heap.size, 1, none⟩) (Nat.le_refl _) (.int .i64 0)).setCell (p := ⟨w.heap.size, 2, none⟩) (Nat.le_refl _) (.slice none 0 0))
    refine bodyPost_ret (v := .tuple #[.agg #[.int .i64 0, .int .i64 0, .slice none 0 0], .int .i64 0, .int .i64 0, .int .i64 171]) (by simp [results, Tryz.results112, go_sem, c0, c1, c2]) rfl ?_
    refine ⟨HB2.out, ?_⟩
    rw [HE.out]
    exact ⟨rfl, by decide⟩
   ·have d3 : decide ((k : Int) < (3 : Int)) = false := by simp; omega
    have d4 : decide (k < 3) = false := by simp; omega
    have hp : 3 ≤ k := by omega
    have hpi : (3 : Int) ≤ (k : Int) := by omega
    have hpi2 : (3 : Int) ≤ (c : Int) := by omega
    have hpc : 3 ≤ c := by omega
    have ht3 := Hbody.out.head hp
    rw [Nat.mul_one, u8s_take] at ht3
    have HKe := Lib.hid (eqBytes_any B (some ⟨w2.heap.size, 0, none⟩) 3 c 3 3 ((xs.take k).take 3) [77, 83, 1] (w2.alloc (.cells #[.int .u8 77, .int .u8 83, .int .u8 1] 5)) (ht3.al _) (reads_lit _ _ _ _ _ _ rfl rfl rfl))
    have HB3 := Lib.hid (bal HB.out (.cells #[.int .u8 77, .int .u8 83, .int .u8 1] 5))
    have HG3 := Lib.hid (HG.out.alloc (.cells #[.int .u8 77, .int .u8 83, .int .u8 1] 5))
    have HP3 := Lib.hid (HP.out.alloc (.cells #[.int .u8 77, .int .u8 83, .int .u8 1] 5))
    have Hbody3 := Lib.hid (Hbody.out.al (.cells #[.int .u8 77, .int .u8 83, .int .u8 1] 5))
    clear ht3 hbl
    go_wp2_with fail
    with_reducible refine HKe.out.mono ?_
    rintro e w3 ⟨rfl, rfl⟩
    have HB := HB3
    have HG := HG3
    have HP := HP3
    have Hbody := Hbody3
    clear HB3 HG3 HP3 Hbody3 HKe
    generalize w2.alloc (.cells #[.int .u8 77, .int .u8 83, .int .u8 1] 5) = w3 at *
    cases hmg : ((xs.take k).take 3 == [77, 83, 1]) with
    | false =>
     have HE := Lib.hid (batD_magic H4.out HE.out (by rw [Hxl.out, ← Hk.out]; exact hmg))
     clear hmg
     have k0 := HP.out.cell 0
     have k1 := HP.out.cell 1
     have k2 := HP.out.cell 2
     have f0 := HG.out.frozen 0
     have f1 := HG.out.frozen 1
     have f2 := HG.out.frozen 2
     have g0 := HG.out.cell 0
     have g1 := HG.out.cell 1
     have g2 := HG.out.cell 2
     go_wp2
     have H2 := same_set3b HG.out
     have c0 := H2.cell 0
     have c1 := H2.cell 1
     have c2 := H2.cell 2
     have HB2 := Lib.hid (((HB.out.setCell (p := ⟨w.heap.size, 0, none⟩) (Nat.le_refl _) (.int .i64 0)).setCell (p := ⟨w.heap.size, 1, none⟩) (Nat.le_refl _) (.int .i64 0)).setCell (p := ⟨w.heap.size, 2, none⟩) (Nat.le_refl _) (.slice none 0 0))
     refine bodyPost_ret (v := .tuple #[.agg #[.int .i64 0, .int .i64 0, .slice none 0 0], .int .i64 0, .int .i64 0, .int .i64 171]) (by simp [results, Tryz.results112, go_sem, c0, c1, c2]) rfl ?_
     refine ⟨HB2.out, ?_⟩
     rw [HE.out]
     exact ⟨rfl, by decide⟩
    | true =>
     have HE := Lib.hid (batD_on H4.out HE.out (by rw [Hxl.out, ← Hk.out]; exact hmg))
     rw [Hxl.out, ← Hk.out] at HE
     clear hmg Hcs
     generalize xs.take k = bd at *
     have hbl := reads_len Hbody.out
     unfold batR at HE
     have hcut := Hbody.out.cut hp hkc
     rw [Nat.mul_one, u8s_drop, if_neg (show ¬ c = 3 by omega), show (fun x : Addr => x.add 3) = (fun x : Addr => (⟨x.block, x.off + 3, none⟩ : Addr)) from funext fun x => by unfold Addr.add; simp] at hcut
     obtain ⟨AX, hAX⟩ : ∃ A2, Option.map (fun x : Addr => (⟨x.block, x.off + 3, none⟩ : Addr)) B = A2 := ⟨_, rfl⟩
     rw [hAX] at hcut
     have HK := Lib.hid (refGet_any AX (k - 3) (c - 3) _ _ hcut (by omega) (by simp only [maxLen] at hcm ⊢; omega))
     have hlen := reads_len hcut
     clear hcut
     rcases numD_case 2147483647 6 (bd.drop 3) with ⟨N, sz, hg, hsz, hN, hE⟩ | ⟨er, hg, he, hE⟩
     ·have H0 := trivial
      clear H0
      have HK1 := HK
      rw [hg] at HK1
      unfold gotten at HK1
      simp only at HK1
      by_cases hle : N ≤ 2147483647
      ·have HE := Lib.hid (show batD xs = thenG (numD 9223372036854775807 6 ((bd.drop 3).drop sz)) fun q => thenG (numD 1048576 5 q.2) fun r => .ok (N, q.1, r.1, r.2) by rw [HE.out, hE, if_pos hle]; rfl)
       have d1 : decide ((2147483647 : Int) < (N : Int)) = false := by simp; omega
       have d2 : decide (2147483647 < N) = false := by simp; omega
       obtain ⟨p, hpd⟩ : ∃ p, p = 3 + sz := ⟨_, rfl⟩
       have hadd : (3 : Int) + (sz : Int) = (p : Int) := by omega
       rw [List.drop_drop, ← hpd] at HE
       have hp : p ≤ k := by omega
       have hv := wrap_i64 N (by omega)
       have Hv := Lib.hid hv
       clear hg hsz hN hE hlen hle HK hv hpd
       go_wp2_with fail
       with_reducible refine HK1.out.mono ?_
       rintro e wx ⟨rfl, rfl⟩
       clear hpi hpi2 HK1 hAX hpc
       have hcut := Hbody.out.cut hp hkc
       rw [Nat.mul_one, u8s_drop, if_neg (show ¬ c = p by omega)] at hcut
       obtain ⟨AX, hAX⟩ : ∃ A2, Option.map (fun x : Addr => x.add p) B = A2 := ⟨_, rfl⟩
       rw [hAX] at hcut
       have HK := Lib.hid (refGet_any AX (k - p) (c - p) _ _ hcut (by omega) (by simp only [maxLen] at hcm ⊢; omega))
       have hlen := reads_len hcut
       have hpc : p ≤ c := by omega
       have hpi : (p : Int) ≤ (k : Int) := by omega
       have hpi2 : (p : Int) ≤ (c : Int) := by omega
       clear hcut
       rcases numD_case 9223372036854775807 6 (bd.drop p) with ⟨N2, sz2, hg, hsz, hN, hE⟩ | ⟨er, hg, he, hE⟩
       ·have HK1 := HK
        rw [hg] at HK1
        unfold gotten at HK1
        simp only at HK1
        by_cases hle : N2 ≤ 9223372036854775807
        ·have HE := Lib.hid (show batD xs = thenG (numD 1048576 5 ((bd.drop p).drop sz2)) fun r => .ok (N, N2, r.1, r.2) by rw [HE.out, hE, if_pos hle]; rfl)
         have e1 : decide ((9223372036854775807 : Int) < (N2 : Int)) = false := by simp; omega
         have e2 : decide (9223372036854775807 < N2) = false := by simp; omega
         obtain ⟨p2, hpd2⟩ : ∃ p2, p2 = p + sz2 := ⟨_, rfl⟩
         have hadd2 : (p : Int) + (sz2 : Int) = (p2 : Int) := by omega
         rw [List.drop_drop, ← hpd2] at HE
         have hp2 : p2 ≤ k := by omega
         have Hv2 := Lib.hid (wrap_i64 N2 (by omega))
         clear hg hsz hN hE hlen hle HK hpd2
         go_wp2_with fail
         with_reducible refine HK1.out.mono ?_
         rintro e wx ⟨rfl, rfl⟩
         clear hpi hpi2 HK1 hAX hpc hp hadd
         have hp := hp2
         have hcut := Hbody.out.cut hp hkc
         rw [Nat.mul_one, u8s_drop, if_neg (show ¬ c = p2 by omega)] at hcut
         obtain ⟨AX, hAX⟩ : ∃ A2, Option.map (fun x : Addr => x.add p2) B = A2 := ⟨_, rfl⟩
         rw [hAX] at hcut
         have HK := Lib.hid (refGet_any AX (k - p2) (c - p2) _ _ hcut (by omega) (by simp only [maxLen] at hcm ⊢; omega))
         have hlen := reads_len hcut
         have hpc : p2 ≤ c := by omega
         have hpi : (p2 : Int) ≤ (k : Int) := by omega
         have hpi2 : (p2 : Int) ≤ (c : Int) := by omega
         clear hcut
         rcases numD_case 1048576 5 (bd.drop p2) with ⟨N3, sz3, hg, hsz, hN, hE⟩ | ⟨er, hg, he, hE⟩
         ·have HK1 := HK
          rw [hg] at HK1
          unfold gotten at HK1
          simp only at HK1
          by_cases hle : N3 ≤ 1048576
          ·have HE := Lib.hid (show batD xs = .ok (N, N2, N3, (bd.drop p2).drop sz3) by rw [HE.out, hE, if_pos hle]; rfl)
           have e3 : decide ((1048576 : Int) < (N3 : Int)) = false := by simp; omega
           have e4 : decide (1048576 < N3) = false := by simp; omega
           obtain ⟨p3, hpd3⟩ : ∃ p3, p3 = p2 + sz3 := ⟨_, rfl⟩
           have hadd3 : (p2 : Int) + (sz3 : Int) = (p3 : Int) := by omega
           rw [List.drop_drop, ← hpd3] at HE
           have Hp3 := Lib.hid (show p3 ≤ bd.length by omega)
           have hv := Hv.out
           have hv2 := Hv2.out
           have hv3 := wrap_i64 N3 (by omega)
           have Hle := Lib.hid hle
           have f0 := HG.out.frozen 0
           have f1 := HG.out.frozen 1
           have f2 := HG.out.frozen 2
           have g0 := HG.out.cell 0
           have g1 := HG.out.cell 1
           have g2 := HG.out.cell 2
           have hp3 : p3 ≤ k := by omega
           clear hg hsz hN hE hlen hle HK hpd3
           go_wp2_with fail
           with_reducible refine HK1.out.mono ?_
           rintro e wx ⟨rfl, rfl⟩
           go_wp2
           have H2 := ((HG.out.set_ 0 (.int .i64 (N : Int))).set_ 1 (.int .i64 (N2 : Int))).set_ 2 (.slice none 0 0)
           simp only [List.setIfInBounds_toArray, List.set_cons_zero, List.set_cons_succ] at H2
           have c0 := H2.cell 0
           have c1 := H2.cell 1
           have c2 := H2.cell 2
           have HB2 := Lib.hid (((HB.out.setCell (p := ⟨w.heap.size, 0, none⟩) (Nat.le_refl _) (.int .i64 (N : Int))).setCell (p := ⟨w.heap.size, 1, none⟩) (Nat.le_refl _) (.int .i64 (N2 : Int))).setCell (p := ⟨w.heap.size, 2, none⟩) (Nat.le_refl _) (.slice none 0 0))
           refine bodyPost_ret (v := .tuple #[.agg #[.int .i64 (N : Int), .int .i64 (N2 : Int), .slice none 0 0], .int .i64 (N3 : Int), .int .i64 (p3 : Int), .int .i64 0]) (by simp [results, Tryz.results112, go_sem, c0, c1, c2]) rfl ?_
           refine ⟨HB2.out, ?_⟩
           rw [HE.out]
           exact ⟨p3, rfl, Hp3.out, rfl, Hle.out⟩
          ·have HE := Lib.hid (show batD xs = .error 5 by rw [HE.out, hE, if_neg hle]; rfl)
           have d1 : decide ((1048576 : Int) < (N3 : Int)) = true := by simp; omega
           have d2 : decide (1048576 < N3) = true := by simp; omega
           clear hle hE HK hg
           go_wp2_with fail
           with_reducible refine HK1.out.mono ?_
           rintro e wx ⟨rfl, rfl⟩
           clear HK1
           have k0 := HP.out.cell 0
           have k1 := HP.out.cell 1
           have k2 := HP.out.cell 2
           have f0 := HG.out.frozen 0
           have f1 := HG.out.frozen 1
           have f2 := HG.out.frozen 2
           have g0 := HG.out.cell 0
           have g1 := HG.out.cell 1
           have g2 := HG.out.cell 2
           go_wp2
           have H2 := same_set3b HG.out
           have c0 := H2.cell 0
           have c1 := H2.cell 1
           have c2 := H2.cell 2
           have HB2 := Lib.hid (((HB.out.setCell (p := ⟨w.heap.size, 0, none⟩) (Nat.le_refl _) (.int .i64 0)).setCell (p := ⟨w.heap.size, 1, none⟩) (Nat.le_refl _) (.int .i64 0)).setCell (p := ⟨w.heap.size, 2, none⟩) (Nat.le_refl _) (.slice none 0 0))
           refine bodyPost_ret (v := .tuple #[.agg #[.int .i64 0, .int .i64 0, .slice none 0 0], .int .i64 0, .int .i64 0, .int .i64 5]) (by simp [results, Tryz.results112, go_sem, c0, c1, c2]) rfl ?_
           refine ⟨HB2.out, ?_⟩
           rw [HE.out]
           exact ⟨rfl, by decide⟩
         ·rw [hg] at HK
          unfold gotten at HK
          simp only at HK
          have hei : ((er : Int) != 0) = true := by simpa using he
          have HE := Lib.hid (show batD xs = .error er by rw [HE.out, hE]; rfl)
          have He := Lib.hid he
          clear hg he hE hlen
          go_wp2_with fail
          with_reducible refine HK.out.mono ?_
          rintro e wx ⟨rfl, rfl⟩
          clear HK
          have k0 := HP.out.cell 0
          have k1 := HP.out.cell 1
          have k2 := HP.out.cell 2
          have f0 := HG.out.frozen 0
          have f1 := HG.out.frozen 1
          have f2 := HG.out.frozen 2
          have g0 := HG.out.cell 0
          have g1 := HG.out.cell 1
          have g2 := HG.out.cell 2
          go_wp2
          have H2 := same_set3b HG.out
          have c0 := H2.cell 0
          have c1 := H2.cell 1
          have c2 := H2.cell 2
          have HB2 := Lib.hid (((HB.out.setCell (p := ⟨w.heap.size, 0, none⟩) (Nat.le_refl _) (.int .i64 0)).setCell (p := ⟨w.heap.size, 1, none⟩) (Nat.le_refl _) (.int .i64 0)).setCell (p := ⟨w.heap.size, 2, none⟩) (Nat.le_refl _) (.slice none 0 0))
          refine bodyPost_ret (v := .tuple #[.agg #[.int .i64 0, .int .i64 0, .slice none 0 0], .int .i64 0, .int .i64 0, .int .i64 (er : Int)]) (by simp [results, Tryz.results112, go_sem, c0, c1, c2]) rfl ?_
          refine ⟨HB2.out, ?_⟩
          rw [HE.out]
          exact ⟨rfl, He.out⟩
        ·have HE := Lib.hid (show batD xs = .error 6 by rw [HE.out, hE, if_neg hle]; rfl)
         have d1 : decide ((9223372036854775807 : Int) < (N2 : Int)) = true := by simp; omega
         have d2 : decide (9223372036854775807 < N2) = true := by simp; omega
         clear hle hE HK hg
         go_wp2_with fail
         with_reducible refine HK1.out.mono ?_
         rintro e wx ⟨rfl, rfl⟩
         clear HK1
         have k0 := HP.out.cell 0
         have k1 := HP.out.cell 1
         have k2 := HP.out.cell 2
         have f0 := HG.out.frozen 0
         have f1 := HG.out.frozen 1
         have f2 := HG.out.frozen 2
         have g0 := HG.out.cell 0
         have g1 := HG.out.cell 1
         have g2 := HG.out.cell 2
         go_wp2
         have H2 := same_set3b HG.out
         have c0 := H2.cell 0
         have c1 := H2.cell 1
         have c2 := H2.cell 2
         have HB2 := Lib.hid (((HB.out.setCell (p := ⟨w.heap.size, 0, none⟩) (Nat.le_refl _) (.int .i64 0)).setCell (p := ⟨w.heap.size, 1, none⟩) (Nat.le_refl _) (.int .i64 0)).setCell (p := ⟨w.heap.size, 2, none⟩) (Nat.le_refl _) (.slice none 0 0))
         refine bodyPost_ret (v := .tuple #[.agg #[.int .i64 0, .int .i64 0, .slice none 0 0], .int .i64 0, .int .i64 0, .int .i64 6]) (by simp [results, Tryz.results112, go_sem, c0, c1, c2]) rfl ?_
         refine ⟨HB2.out, ?_⟩
         rw [HE.out]
         exact ⟨rfl, by decide⟩
       ·rw [hg] at HK
        unfold gotten at HK
        simp only at HK
        have hei : ((er : Int) != 0) = true := by simpa using he
        have HE := Lib.hid (show batD xs = .error er by rw [HE.out, hE]; rfl)
        have He := Lib.hid he
        clear hg he hE hlen
        go_wp2_with fail
        with_reducible refine HK.out.mono ?_
        rintro e wx ⟨rfl, rfl⟩
        clear HK
        have k0 := HP.out.cell 0
        have k1 := HP.out.cell 1
        have k2 := HP.out.cell 2
        have f0 := HG.out.frozen 0
        have f1 := HG.out.frozen 1
        have f2 := HG.out.frozen 2
        have g0 := HG.out.cell 0
        have g1 := HG.out.cell 1
        have g2 := HG.out.cell 2
        go_wp2
        have H2 := same_set3b HG.out
        have c0 := H2.cell 0
        have c1 := H2.cell 1
        have c2 := H2.cell 2
        have HB2 := Lib.hid (((HB.out.setCell (p := ⟨w.heap.size, 0, none⟩) (Nat.le_refl _) (.int .i64 0)).setCell (p := ⟨w.heap.size, 1, none⟩) (Nat.le_refl _) (.int .i64 0)).setCell (p := ⟨w.heap.size, 2, none⟩) (Nat.le_refl _) (.slice none 0 0))
        refine bodyPost_ret (v := .tuple #[.agg #[.int .i64 0, .int .i64 0, .slice none 0 0], .int .i64 0, .int .i64 0, .int .i64 (er : Int)]) (by simp [results, Tryz.results112, go_sem, c0, c1, c2]) rfl ?_
        refine ⟨HB2.out, ?_⟩
        rw [HE.out]
        exact ⟨rfl, He.out⟩
      ·have HE := Lib.hid (show batD xs = .error 6 by rw [HE.out, hE, if_neg hle]; rfl)
       have d1 : decide ((2147483647 : Int) < (N : Int)) = true := by simp; omega
       have d2 : decide (2147483647 < N) = true := by simp; omega
       clear hle hE HK hg
       go_wp2_with fail
       with_reducible refine HK1.out.mono ?_
       rintro e wx ⟨rfl, rfl⟩
       clear HK1
       have k0 := HP.out.cell 0
       have k1 := HP.out.cell 1
       have k2 := HP.out.cell 2
       have f0 := HG.out.frozen 0
       have f1 := HG.out.frozen 1
       have f2 := HG.out.frozen 2
       have g0 := HG.out.cell 0
       have g1 := HG.out.cell 1
       have g2 := HG.out.cell 2
       go_wp2
       have H2 := same_set3b HG.out
       have c0 := H2.cell 0
       have c1 := H2.cell 1
       have c2 := H2.cell 2
       have HB2 := Lib.hid (((HB.out.setCell (p := ⟨w.heap.size, 0, none⟩) (Nat.le_refl _) (.int .i64 0)).setCell (p := ⟨w.heap.size, 1, none⟩) (Nat.le_refl _) (.int .i64 0)).setCell (p := ⟨w.heap.size, 2, none⟩) (Nat.le_refl _) (.slice none 0 0))
       refine bodyPost_ret (v := .tuple #[.agg #[.int .i64 0, .int .i64 0, .slice none 0 0], .int .i64 0, .int .i64 0, .int .i64 6]) (by simp [results, Tryz.results112, go_sem, c0, c1, c2]) rfl ?_
       refine ⟨HB2.out, ?_⟩
       rw [HE.out]
       exact ⟨rfl, by decide⟩
     ·rw [hg] at HK
      unfold gotten at HK
      simp only at HK
      have hei : ((er : Int) != 0) = true := by simpa using he
      have HE := Lib.hid (show batD xs = .error er by rw [HE.out, hE]; rfl)
      have He := Lib.hid he
      clear hg he hE hlen
      go_wp2_with fail
      with_reducible refine HK.out.mono ?_
      rintro e wx ⟨rfl, rfl⟩
      clear HK
      have k0 := HP.out.cell 0
      have k1 := HP.out.cell 1
      have k2 := HP.out.cell 2
      have f0 := HG.out.frozen 0
      have f1 := HG.out.frozen 1
      have f2 := HG.out.frozen 2
      have g0 := HG.out.cell 0
      have g1 := HG.out.cell 1
      have g2 := HG.out.cell 2
      go_wp2
      have H2 := same_set3b HG.out
      have c0 := H2.cell 0
      have c1 := H2.cell 1
      have c2 := H2.cell 2
      have HB2 := Lib.hid (((HB.out.setCell (p := ⟨w.heap.size, 0, none⟩) (Nat.le_refl _) (.int .i64 0)).setCell (p := ⟨w.heap.size, 1, none⟩) (Nat.le_refl _) (.int .i64 0)).setCell (p := ⟨w.heap.size, 2, none⟩) (Nat.le_refl _) (.slice none 0 0))
      refine bodyPost_ret (v := .tuple #[.agg #[.int .i64 0, .int .i64 0, .slice none 0 0], .int .i64 0, .int .i64 0, .int .i64 (er : Int)]) (by simp [results, Tryz.results112, go_sem, c0, c1, c2]) rfl ?_
      refine ⟨HB2.out, ?_⟩
      rw [HE.out]
      exact ⟨rfl, He.out⟩
set_option maxRecDepth 100000 in
set_option maxHeartbeats 1000000 in
theorem rpeek_any (B : Option Addr) (m c : Nat) (xs : List UInt8) (w : World) (hr : Reads w w.heap.size 1 B m (u8s xs)) (hm : m ≤ c) (hc : c ≤ maxLen) :
  Calls Tryz.prog 48 #[.slice B m c] w fun e w' => e = .returned (.tuple #[.int .i64 (pkV (batD xs)).2.1, .int .i64 (pkV (batD xs)).2.2.1, .int .i64 (pkV (batD xs)).2.2.2, .int .i64 (pkV (batD xs)).1]) ∧ Below w.heap.size w w' := by
 have HK := Lib.hid (rhead_any B m c xs w hr hm hc)
 clear hr hm hc
 generalize hR : batD xs = R at *
 clear hR
 obtain ⟨p, hp⟩ : ∃ p : Int × Int × Int × Int, p = pkV R := ⟨_, rfl⟩
 rw [← hp]
 have HK2 := Lib.hid (show Calls Tryz.prog 112 #[.slice B m c] w (fun e w' => ∃ at_ : Int, e = .returned (.tuple #[.agg #[.int .i64 p.2.1, .int .i64 p.2.2.1, .slice none 0 0], .int .i64 p.2.2.2, .int .i64 at_, .int .i64 p.1]) ∧ Below w.heap.size w w') from HK.out.mono (by
  rintro e w' ⟨hb, hm⟩
  rw [hp]
  rcases R with er | h
  ·exact ⟨0, hm.1, hb⟩
  ·obtain ⟨q, h1, -⟩ := hm
   exact ⟨(q : Int), h1, hb⟩))
 obtain ⟨E, V, S, N⟩ := p
 clear hp HK
 simp only at HK2 ⊢
 go_enter Tryz.func48, Tryz.ntmps48
 go_wp2_with fail
 with_reducible refine HK2.out.mono ?_
 rintro e w1 ⟨at_, rfl, hb⟩
 have HB := Lib.hid (bal hb (.cells #[.int .i64 V, .int .i64 S, .slice none 0 0] 30))
 have HP := Lib.hid (Blk.new w1 30 #[.int .i64 V, .int .i64 S, .slice none 0 0])
 clear hb HK2
 go_wp2
 obtain ⟨W1, hW1⟩ : ∃ W1, w1.alloc (.cells #[.int .i64 V, .int .i64 S, .slice none 0 0] 30) = W1 := ⟨_, rfl⟩
 rw [hW1] at HB HP ⊢
 generalize w1.heap.size = g at *
 clear hW1
 have hS : W1.drew = W1.drew := rfl
 have HL0 := Lib.hid (show ∀ w', w' = W1.drew → w'.cell? ⟨g, 0, none⟩ = some (.int .i64 V) from fun w' h => by rw [h]; exact HP.out.cell 0)
 have HL1 := Lib.hid (show ∀ w', w' = W1.drew → w'.cell? ⟨g, 1, none⟩ = some (.int .i64 S) from fun w' h => by rw [h]; exact HP.out.cell 1)
 refine wp_region_keep (fun w' => w' = W1.drew) [(0, false), (1, false), (2, false), (3, false), (4, false), (5, false), (6, false), (7, false), (8, false), (9, false)] (by kernel_rfl) (by kernel_rfl) (by kernel_rfl) (fun d _ _ _ _ h => by cases d <;> exact h) ?_
 refine held_pure (v := ?_) rfl rfl (by simp [Region.wanted, yielded]) hS ?_ ?_
 rotate_left
 ·intro w hw; go_simp; try with_reducible rfl
 try simp only [Act.put, zpA, zpB, zpC]
 refine held_pure (v := ?_) rfl rfl (by simp [Region.wanted, yielded]) hS ?_ ?_
 rotate_left
 ·intro w hw; have c0 := HL0.out w hw; clear hw; go_simp; try with_reducible rfl
 try simp only [Act.put, zpA, zpB, zpC]
 refine held_pure (v := ?_) rfl rfl (by simp [Region.wanted, yielded]) hS ?_ ?_
 rotate_left
 ·intro w hw; go_simp; try with_reducible rfl
 try simp only [Act.put, zpA, zpB, zpC]
 refine held_pure (v := ?_) rfl rfl (by simp [Region.wanted, yielded]) hS ?_ ?_
 rotate_left
 ·intro w hw; have c0 := HL1.out w hw; clear hw; go_simp; try with_reducible rfl
 try simp only [Act.put, zpA, zpB, zpC]
 iterate 6
  refine held_pure (v := ?_) rfl rfl (by simp [Region.wanted, yielded]) hS ?_ ?_
  rotate_left
  ·intro w hw; go_simp; try with_reducible rfl
  try simp only [Act.put, zpA, zpB, zpC]
 refine held_end ?_
 go_wp2
 refine bodyPost_ret (v := .tuple #[.int .i64 V, .int .i64 S, .int .i64 N, .int .i64 E]) (by simp [results, Tryz.results48, go_sem]) rfl ?_
 exact ⟨rfl, HB.out.drew⟩
end Go.Proofs.YtjpjalmilfgckaaGreatDoor
