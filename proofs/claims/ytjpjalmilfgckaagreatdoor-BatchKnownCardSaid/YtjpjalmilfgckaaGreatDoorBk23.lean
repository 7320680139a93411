/- Part 23 of the walks, merged: each text under its own heading. Conditions: none of its own; each lemma states what it asks. -/
import Derived.Test.YtjpjalmilfgckaaGreatDoorBk8
import Derived.Test.YtjpjalmilfgckaaGreatDoorBk16
import Derived.Test.YtjpjalmilfgckaaGreatDoorBk21
import Derived.Test.YtjpjalmilfgckaaGreatDoorBk22
set_option linter.unusedVariables false
set_option linter.unusedSimpArgs false
namespace Go.Proofs.YtjpjalmilfgckaaGreatDoor
open Go.RowKit
def pkV (r : Got (Nat × Nat × Nat × List UInt8)) : Int × Int × Int × Int :=
 match r with
 | .ok h => (0, (h.1 : Int), (h.2.1 : Int), (h.2.2.1 : Int))
 | .error er => ((er : Int), 0, 0, 0)
set_option maxRecDepth 100000 in
set_option maxHeartbeats 1000000 in
theorem peek1_any (base : Nat) (B : Option Addr) (m c : Nat) (xs : List UInt8) (w : World) (hs : w.heap.size = base + 5)
  (h0 : Blk w base 35 #[.slice B m c]) (h1 : Blk w (base + 1) 3 #[.int .i64 0]) (h2 : Blk w (base + 2) 2 #[.int .i64 0]) (h3 : Blk w (base + 3) 3 #[.int .i64 0]) (h4 : Blk w (base + 4) 36 #[.int .i64 0])
  (hr : Reads w base 1 B m (u8s xs)) (hm : m ≤ c) (hc : c ≤ maxLen) (hT : Tab2 base w) :
  Calls Tryz.prog 100 #[.pointer (some ⟨base, 0, none⟩), .pointer (some ⟨base + 1, 0, none⟩), .pointer (some ⟨base + 2, 0, none⟩), .pointer (some ⟨base + 3, 0, none⟩)] w fun e w' =>
   e = endN (pkV (batD xs)).1 ∧ Blk w' (base + 1) 3 #[.int .i64 (pkV (batD xs)).2.1] ∧ Blk w' (base + 2) 2 #[.int .i64 (pkV (batD xs)).2.2.1] ∧ Blk w' (base + 3) 3 #[.int .i64 (pkV (batD xs)).2.2.2] ∧ Blk w' (base + 4) 36 #[.int .i64 0] ∧ Below base w w' := by
 have c0 := h0.cell 0
 have Hs := Lib.hid hs
 have HG := Lib.hid (Blk.new w 129 #[.slice B m c])
 have HB := Lib.hid ((Below.refl base w).alloc (by omega) (.cells #[.slice B m c] 129))
 have HK := Lib.hid (head_any base w.heap.size B m c xs (w.alloc (.cells #[.slice B m c] 129)) HG.out (hr.below HB.out) (by omega) hm hc (hT.keep HB.out))
 have H1 := Lib.hid (h1.alloc (.cells #[.slice B m c] 129))
 have H2 := Lib.hid (h2.alloc (.cells #[.slice B m c] 129))
 have H3 := Lib.hid (h3.alloc (.cells #[.slice B m c] 129))
 have H4 := Lib.hid (h4.alloc (.cells #[.slice B m c] 129))
 have Hws := Lib.hid (show (w.alloc (.cells #[.slice B m c] 129)).heap.size = base + 6 by simp [hs])
 clear h0 h1 h2 h3 h4 hr hT hs
 go_enter Tryz.func100, Tryz.ntmps100
 go_wp2_with fail
 with_reducible refine HK.out.mono ?_
 rintro e w2 ⟨hb2, hm2⟩
 clear c0
 generalize hW1 : w.alloc (.cells #[.slice B m c] 129) = W1 at *
 clear hW1
 have hws := Hws.out
 have hs := Hs.out
 have H1 := Lib.hid (hb2.blk H1.out (by omega) (by omega))
 have H2 := Lib.hid (hb2.blk H2.out (by omega) (by omega))
 have H3 := Lib.hid (hb2.blk H3.out (by omega) (by omega))
 have H4 := Lib.hid (hb2.blk H4.out (by omega) (by omega))
 have HB2 := Lib.hid (HB.out.trans (hb2.below (B2 := base) (by omega) (by omega)))
 have hz2 := hb2.size
 clear hb2
 cases hd : batD xs with
 | error er =>
  rw [hd] at hm2
  obtain ⟨rfl, he⟩ := hm2
  have he' : (er : Int) ≠ 0 := by omega
  have Hd := Lib.hid hd
  clear hd hws hs
  go_wp2
  refine ⟨rfl, ?_⟩
  rw [Hd.out]
  exact ⟨(endN_not he').symm, H1.out, H2.out, H3.out, H4.out, HB2.out⟩
 | ok h =>
  rw [hd] at hm2
  obtain ⟨rfl, -⟩ := hm2
  obtain ⟨V, S, N, ys⟩ := h
  have HP := Lib.hid (Blk.new w2 30 #[.int .i64 (V : Int), .int .i64 (S : Int), .slice none 0 0])
  have H1 := Lib.hid (H1.out.alloc (.cells #[.int .i64 (V : Int), .int .i64 (S : Int), .slice none 0 0] 30))
  have H2 := Lib.hid (H2.out.alloc (.cells #[.int .i64 (V : Int), .int .i64 (S : Int), .slice none 0 0] 30))
  have H3 := Lib.hid (H3.out.alloc (.cells #[.int .i64 (V : Int), .int .i64 (S : Int), .slice none 0 0] 30))
  have H4 := Lib.hid (H4.out.alloc (.cells #[.int .i64 (V : Int), .int .i64 (S : Int), .slice none 0 0] 30))
  have HB3 := Lib.hid (HB2.out.alloc (by omega) (.cells #[.int .i64 (V : Int), .int .i64 (S : Int), .slice none 0 0] 30))
  have Hpw := Lib.hid (show base + 6 ≤ w2.heap.size by omega)
  have Hd := Lib.hid hd
  clear hd hws hs hz2
  go_wp2
  generalize hp : w2.heap.size = p at *
  generalize hW3 : w2.alloc (.cells #[.int .i64 (V : Int), .int .i64 (S : Int), .slice none 0 0] 30) = W3 at *
  clear hW3 hp
  have hpw := Hpw.out
  have hS : Blk W3.drew p 30 #[.int .i64 (V : Int), .int .i64 (S : Int), .slice none 0 0] := HP.out.drew
  have HL0 := Lib.hid (show ∀ w', Blk w' p 30 #[.int .i64 (V : Int), .int .i64 (S : Int), .slice none 0 0] → w'.cell? ⟨p, 0, none⟩ = some (.int .i64 (V : Int)) from fun w' h => h.cell 0)
  have HL1 := Lib.hid (show ∀ w', Blk w' p 30 #[.int .i64 (V : Int), .int .i64 (S : Int), .slice none 0 0] → w'.cell? ⟨p, 1, none⟩ = some (.int .i64 (S : Int)) from fun w' h => h.cell 1)
  refine wp_region_keep (fun w' => Blk w' p 30 #[.int .i64 (V : Int), .int .i64 (S : Int), .slice none 0 0]) [(0, false), (1, false), (2, false), (3, false), (4, false), (5, true), (6, true), (7, true)] (by kernel_rfl) (by kernel_rfl) (by kernel_rfl) (fun d _ _ _ _ h => by cases d <;> exact h) ?_
  refine held_pure (v := ?_) rfl rfl (by simp [Region.wanted, yielded]) hS ?_ ?_
  rotate_left
  ·intro w hw; go_simp; try with_reducible rfl
  try simp only [Act.put, zpA, zpB, zpC]
  refine held_pure (v := ?_) rfl rfl (by simp [Region.wanted, yielded]) hS ?_ ?_
  rotate_left
  ·intro w hw; have c0 := HL0.out w hw; clear hw; go_simp; try with_reducible rfl
  try simp only [Act.put, zpA, zpB, zpC]
  refine held_pure (v := ?_) rfl rfl (by simp [Region.wanted, yielded]) hS ?_ ?_
  rotate_left
  ·intro w hw; go_simp; try with_reducible rfl
  try simp only [Act.put, zpA, zpB, zpC]
  refine held_pure (v := ?_) rfl rfl (by simp [Region.wanted, yielded]) hS ?_ ?_
  rotate_left
  ·intro w hw; have c0 := HL1.out w hw; clear hw; go_simp; try with_reducible rfl
  try simp only [Act.put, zpA, zpB, zpC]
  refine held_pure (v := ?_) rfl rfl (by simp [Region.wanted, yielded]) hS ?_ ?_
  rotate_left
  ·intro w hw; go_simp; try with_reducible rfl
  try simp only [Act.put, zpA, zpB, zpC]
  have H1a := Lib.hid H1.out.drew
  have H2a := Lib.hid H2.out.drew
  have H3a := Lib.hid H3.out.drew
  have H4a := Lib.hid H4.out.drew
  have HB4 := Lib.hid HB3.out.drew
  generalize W3.drew = W4 at *
  have hc1 := H1a.out.cell 0
  have hf1 := H1a.out.frozen 0
  refine held_eff1 rfl (by simp [Region.wanted, yielded]) fun K hK => ?_
  go_simp
  clear hc1 hf1
  refine held_go hK (by exact hS.far (p := ⟨base + 1, 0, none⟩) (by show p ≠ base + 1; omega) _) fun hS => ?_
  clear hK K
  try simp only [Act.put, zpA, zpB, zpC]
  have H1b := Lib.hid (H1a.out.set_ 0 (.int .i64 (V : Int)))
  simp only [List.setIfInBounds_toArray, List.set_cons_zero] at H1b
  have H2b := Lib.hid (H2a.out.far (p := ⟨base + 1, 0, none⟩) (by show base + 2 ≠ base + 1; omega) (.int .i64 (V : Int)))
  have H3b := Lib.hid (H3a.out.far (p := ⟨base + 1, 0, none⟩) (by show base + 3 ≠ base + 1; omega) (.int .i64 (V : Int)))
  have H4b := Lib.hid (H4a.out.far (p := ⟨base + 1, 0, none⟩) (by show base + 4 ≠ base + 1; omega) (.int .i64 (V : Int)))
  have HB5 := Lib.hid (HB4.out.setCell (p := ⟨base + 1, 0, none⟩) (by show base ≤ base + 1; omega) (.int .i64 (V : Int)))
  clear H1a H2a H3a H4a HB4
  generalize W4.setCell ⟨base + 1, 0, none⟩ (.int .i64 (V : Int)) = W5 at *
  have hc1 := H2b.out.cell 0
  have hf1 := H2b.out.frozen 0
  refine held_eff1 rfl (by simp [Region.wanted, yielded]) fun K hK => ?_
  go_simp
  clear hc1 hf1
  refine held_go hK (by exact hS.far (p := ⟨base + 2, 0, none⟩) (by show p ≠ base + 2; omega) _) fun hS => ?_
  clear hK K
  try simp only [Act.put, zpA, zpB, zpC]
  have H1a := Lib.hid (H1b.out.far (p := ⟨base + 2, 0, none⟩) (by show base + 1 ≠ base + 2; omega) (.int .i64 (S : Int)))
  have H2a := Lib.hid (H2b.out.set_ 0 (.int .i64 (S : Int)))
  simp only [List.setIfInBounds_toArray, List.set_cons_zero] at H2a
  have H3a := Lib.hid (H3b.out.far (p := ⟨base + 2, 0, none⟩) (by show base + 3 ≠ base + 2; omega) (.int .i64 (S : Int)))
  have H4a := Lib.hid (H4b.out.far (p := ⟨base + 2, 0, none⟩) (by show base + 4 ≠ base + 2; omega) (.int .i64 (S : Int)))
  have HB6 := Lib.hid (HB5.out.setCell (p := ⟨base + 2, 0, none⟩) (by show base ≤ base + 2; omega) (.int .i64 (S : Int)))
  clear H1b H2b H3b H4b HB5
  generalize W5.setCell ⟨base + 2, 0, none⟩ (.int .i64 (S : Int)) = W6 at *
  have hc1 := H3a.out.cell 0
  have hf1 := H3a.out.frozen 0
  refine held_eff1 rfl (by simp [Region.wanted, yielded]) fun K hK => ?_
  go_simp
  clear hc1 hf1
  refine held_go hK (by exact hS.far (p := ⟨base + 3, 0, none⟩) (by show p ≠ base + 3; omega) _) fun hS => ?_
  clear hK K
  try simp only [Act.put, zpA, zpB, zpC]
  have H3b := Lib.hid (H3a.out.set_ 0 (.int .i64 (N : Int)))
  simp only [List.setIfInBounds_toArray, List.set_cons_zero] at H3b
  refine held_end ?_
  go_wp2
  go_end0
  rw [Hd.out]
  exact ⟨rfl, H1a.out.far (p := ⟨base + 3, 0, none⟩) (by show base + 1 ≠ base + 3; omega) _, H2a.out.far (p := ⟨base + 3, 0, none⟩) (by show base + 2 ≠ base + 3; omega) _, H3b.out, H4a.out.far (p := ⟨base + 3, 0, none⟩) (by show base + 4 ≠ base + 3; omega) _, HB6.out.setCell (p := ⟨base + 3, 0, none⟩) (by show base ≤ base + 3; omega) _⟩
theorem same_set {w : World} {g : Nat} {t : TypeId} {v : Value} (h : Blk w g t #[v]) : Blk (w.setCell ⟨g, 0, none⟩ v) g t #[v] := by
 have := h.set_ 0 v
 simpa using this
theorem same_set1 {w0 w : World} {b : Nat} {V S N : Int} (h : Blk w (b + 1) 3 #[.int .i64 V] ∧ Blk w (b + 2) 2 #[.int .i64 S] ∧ Blk w (b + 3) 3 #[.int .i64 N] ∧ Below b w0 w) :
  Blk (w.setCell ⟨b + 1, 0, none⟩ (.int .i64 V)) (b + 1) 3 #[.int .i64 V] ∧ Blk (w.setCell ⟨b + 1, 0, none⟩ (.int .i64 V)) (b + 2) 2 #[.int .i64 S] ∧ Blk (w.setCell ⟨b + 1, 0, none⟩ (.int .i64 V)) (b + 3) 3 #[.int .i64 N] ∧ Below b w0 (w.setCell ⟨b + 1, 0, none⟩ (.int .i64 V)) :=
 ⟨same_set h.1, h.2.1.far (by show b + 2 ≠ b + 1; omega) _, h.2.2.1.far (by show b + 3 ≠ b + 1; omega) _, h.2.2.2.setCell (by show b ≤ b + 1; omega) _⟩
theorem same_set2 {w0 w : World} {b : Nat} {V S N : Int} (h : Blk w (b + 1) 3 #[.int .i64 V] ∧ Blk w (b + 2) 2 #[.int .i64 S] ∧ Blk w (b + 3) 3 #[.int .i64 N] ∧ Below b w0 w) :
  Blk (w.setCell ⟨b + 2, 0, none⟩ (.int .i64 S)) (b + 1) 3 #[.int .i64 V] ∧ Blk (w.setCell ⟨b + 2, 0, none⟩ (.int .i64 S)) (b + 2) 2 #[.int .i64 S] ∧ Blk (w.setCell ⟨b + 2, 0, none⟩ (.int .i64 S)) (b + 3) 3 #[.int .i64 N] ∧ Below b w0 (w.setCell ⟨b + 2, 0, none⟩ (.int .i64 S)) :=
 ⟨h.1.far (by show b + 1 ≠ b + 2; omega) _, same_set h.2.1, h.2.2.1.far (by show b + 3 ≠ b + 2; omega) _, h.2.2.2.setCell (by show b ≤ b + 2; omega) _⟩
theorem same_set3 {w0 w : World} {b : Nat} {V S N : Int} (h : Blk w (b + 1) 3 #[.int .i64 V] ∧ Blk w (b + 2) 2 #[.int .i64 S] ∧ Blk w (b + 3) 3 #[.int .i64 N] ∧ Below b w0 w) :
  Blk (w.setCell ⟨b + 3, 0, none⟩ (.int .i64 N)) (b + 1) 3 #[.int .i64 V] ∧ Blk (w.setCell ⟨b + 3, 0, none⟩ (.int .i64 N)) (b + 2) 2 #[.int .i64 S] ∧ Blk (w.setCell ⟨b + 3, 0, none⟩ (.int .i64 N)) (b + 3) 3 #[.int .i64 N] ∧ Below b w0 (w.setCell ⟨b + 3, 0, none⟩ (.int .i64 N)) :=
 ⟨h.1.far (by show b + 1 ≠ b + 3; omega) _, h.2.1.far (by show b + 2 ≠ b + 3; omega) _, same_set h.2.2.1, h.2.2.2.setCell (by show b ≤ b + 3; omega) _⟩
set_option maxRecDepth 100000 in
set_option maxHeartbeats 1000000 in
theorem bpeek_any (B : Option Addr) (m c : Nat) (xs : List UInt8) (w : World) (hr : Reads w w.heap.size 1 B m (u8s xs)) (hm : m ≤ c) (hc : c ≤ maxLen) (hT : Tab2 w.heap.size w) :
  Calls Tryz.prog 37 #[.slice B m c] w fun e w' => e = .returned (.tuple #[.int .i64 (pkV (batD xs)).2.1, .int .i64 (pkV (batD xs)).2.2.1, .int .i64 (pkV (batD xs)).2.2.2, .int .i64 (pkV (batD xs)).1]) ∧ Below w.heap.size w w' := by
 have hin := callFunc_in Tryz.func100 (by kernel_rfl) (by kernel_rfl)
 obtain ⟨b, hb⟩ : ∃ b, b = w.heap.size := ⟨_, rfl⟩
 obtain ⟨W2, hW2⟩ : ∃ W2, W2 = (((w.alloc (.cells #[.slice B m c] 35)).alloc (.cells #[.int .i64 0] 3)).alloc (.cells #[.int .i64 0] 2)).alloc (.cells #[.int .i64 0] 3) := ⟨_, rfl⟩
 obtain ⟨W3, hW3⟩ : ∃ W3, W3 = W2.alloc (.cells #[.int .i64 0] 36) := ⟨_, rfl⟩
 have hs2 : W2.heap.size = b + 4 := by rw [hW2, hb]; simp
 have hs3 : W3.heap.size = b + 5 := by rw [hW3]; simp [hs2]
 have hw3 : Below b w W3 := by rw [hW3, hW2, hb]; exact bal (bal (bal (bal (bal (Below.refl _ _) _) _) _) _) _
 have B0 : Blk W3 b 35 #[.slice B m c] := by
  have := ((((Blk.new w 35 #[.slice B m c]).alloc (.cells #[.int .i64 0] 3)).alloc (.cells #[.int .i64 0] 2)).alloc (.cells #[.int .i64 0] 3)).alloc (.cells #[.int .i64 0] 36)
  rw [hW3, hW2, hb]
  exact this
 have B1 : Blk W3 (b + 1) 3 #[.int .i64 0] := by
  have := (((Blk.new (w.alloc (.cells #[.slice B m c] 35)) 3 #[.int .i64 0]).alloc (.cells #[.int .i64 0] 2)).alloc (.cells #[.int .i64 0] 3)).alloc (.cells #[.int .i64 0] 36)
  rw [hW3, hW2, hb]
  simpa using this
 have B2 : Blk W3 (b + 2) 2 #[.int .i64 0] := by
  have := ((Blk.new ((w.alloc (.cells #[.slice B m c] 35)).alloc (.cells #[.int .i64 0] 3)) 2 #[.int .i64 0]).alloc (.cells #[.int .i64 0] 3)).alloc (.cells #[.int .i64 0] 36)
  rw [hW3, hW2, hb]
  simpa using this
 have B3 : Blk W3 (b + 3) 3 #[.int .i64 0] := by
  have := (Blk.new (((w.alloc (.cells #[.slice B m c] 35)).alloc (.cells #[.int .i64 0] 3)).alloc (.cells #[.int .i64 0] 2)) 3 #[.int .i64 0]).alloc (.cells #[.int .i64 0] 36)
  rw [hW3, hW2, hb]
  simpa using this
 have B4 : Blk W3 (b + 4) 36 #[.int .i64 0] := by
  have := Blk.new W2 36 #[.int .i64 0]
  rw [hs2] at this
  rw [hW3]
  exact this
 have HK := Lib.hid (caught_any 100 #[.pointer (some ⟨b, 0, none⟩), .pointer (some ⟨b + 1, 0, none⟩), .pointer (some ⟨b + 2, 0, none⟩), .pointer (some ⟨b + 3, 0, none⟩)] W2 (fun E w' => E = (pkV (batD xs)).1 ∧ Blk w' (b + 1) 3 #[.int .i64 (pkV (batD xs)).2.1] ∧ Blk w' (b + 2) 2 #[.int .i64 (pkV (batD xs)).2.2.1] ∧ Blk w' (b + 3) 3 #[.int .i64 (pkV (batD xs)).2.2.2] ∧ Below b w w') hin (by
  rw [← hW3]
  refine (peek1_any b B m c xs W3 hs3 B0 B1 B2 B3 B4 (by rw [← hb] at hr; exact hr.below hw3) hm hc (by rw [← hb] at hT; exact hT.keep hw3)).mono ?_
  rintro e w' ⟨rfl, g1, g2, g3, g4, g5⟩
  exact ⟨_, rfl, ⟨rfl, g1, g2, g3, hw3.trans g5⟩, by rw [hs2]; exact g4⟩))
 have Hs2 := Lib.hid hs2
 have Hb := Lib.hid hb
 clear hr hT hw3 B0 B1 B2 B3 B4 hs3 hs2 hW3
 go_enter Tryz.func37, Tryz.ntmps37
 generalize pkV (batD xs) = q at *
 obtain ⟨E, V, S, N⟩ := q
 simp only at HK ⊢
 go_wp2_with fail
 rw [← hW2, ← hb]
 have Hw := Lib.hid hW2
 clear hW2 hb
 with_reducible refine HK.out.mono ?_
 rintro e w1 ⟨E2, w2, rfl, ⟨rfl, g1, g2, g3, g5⟩, hE, rfl⟩
 have H1 := Lib.hid (g1.far (p := ⟨W2.heap.size, 0, none⟩) (by have := Hs2.out; show b + 1 ≠ W2.heap.size; omega) (.int .i64 E2))
 have H2 := Lib.hid (g2.far (p := ⟨W2.heap.size, 0, none⟩) (by have := Hs2.out; show b + 2 ≠ W2.heap.size; omega) (.int .i64 E2))
 have H3 := Lib.hid (g3.far (p := ⟨W2.heap.size, 0, none⟩) (by have := Hs2.out; show b + 3 ≠ W2.heap.size; omega) (.int .i64 E2))
 have HB := Lib.hid (g5.setCell (p := ⟨W2.heap.size, 0, none⟩) (by have := Hs2.out; show b ≤ W2.heap.size; omega) (.int .i64 E2))
 clear g1 g2 g3 g5 hE HK
 generalize w2.setCell ⟨W2.heap.size, 0, none⟩ (.int .i64 E2) = w5 at *
 rw [show b + 1 + 1 + 1 = b + 3 from rfl, show b + 1 + 1 = b + 2 from rfl]
 go_wp2
 have HL1 := Lib.hid (show ∀ w', Blk w' (b + 1) 3 #[.int .i64 V] ∧ Blk w' (b + 2) 2 #[.int .i64 S] ∧ Blk w' (b + 3) 3 #[.int .i64 N] ∧ Below b w w' → w'.cell? ⟨b + 1, 0, none⟩ = some (.int .i64 V) from fun w' h => h.1.cell 0)
 have HL2 := Lib.hid (show ∀ w', Blk w' (b + 1) 3 #[.int .i64 V] ∧ Blk w' (b + 2) 2 #[.int .i64 S] ∧ Blk w' (b + 3) 3 #[.int .i64 N] ∧ Below b w w' → w'.cell? ⟨b + 2, 0, none⟩ = some (.int .i64 S) from fun w' h => h.2.1.cell 0)
 have HL3 := Lib.hid (show ∀ w', Blk w' (b + 1) 3 #[.int .i64 V] ∧ Blk w' (b + 2) 2 #[.int .i64 S] ∧ Blk w' (b + 3) 3 #[.int .i64 N] ∧ Below b w w' → w'.cell? ⟨b + 3, 0, none⟩ = some (.int .i64 N) from fun w' h => h.2.2.1.cell 0)
 have hS : Blk w5.drew (b + 1) 3 #[.int .i64 V] ∧ Blk w5.drew (b + 2) 2 #[.int .i64 S] ∧ Blk w5.drew (b + 3) 3 #[.int .i64 N] ∧ Below b w w5.drew := ⟨H1.out.drew, H2.out.drew, H3.out.drew, HB.out.drew⟩
 refine wp_region_keep (fun w' => Blk w' (b + 1) 3 #[.int .i64 V] ∧ Blk w' (b + 2) 2 #[.int .i64 S] ∧ Blk w' (b + 3) 3 #[.int .i64 N] ∧ Below b w w') [(0, false), (1, false), (2, false), (3, false), (4, true), (5, true), (6, true), (7, false)] (by kernel_rfl) (by kernel_rfl) (by kernel_rfl) (fun d _ _ _ _ h => by cases d <;> exact h) ?_
 refine held_pure (v := ?_) rfl rfl (by simp [Region.wanted, yielded]) hS ?_ ?_
 rotate_left
 ·intro w hw; have c0 := HL1.out w hw; clear hw; go_simp; try with_reducible rfl
 try simp only [Act.put, zpA, zpB, zpC]
 refine held_pure (v := ?_) rfl rfl (by simp [Region.wanted, yielded]) hS ?_ ?_
 rotate_left
 ·intro w hw; have c0 := HL2.out w hw; clear hw; go_simp; try with_reducible rfl
 try simp only [Act.put, zpA, zpB, zpC]
 refine held_pure (v := ?_) rfl rfl (by simp [Region.wanted, yielded]) hS ?_ ?_
 rotate_left
 ·intro w hw; have c0 := HL3.out w hw; clear hw; go_simp; try with_reducible rfl
 try simp only [Act.put, zpA, zpB, zpC]
 refine held_pure (v := ?_) rfl rfl (by simp [Region.wanted, yielded]) hS ?_ ?_
 rotate_left
 ·intro w hw; go_simp; try with_reducible rfl
 try simp only [Act.put, zpA, zpB, zpC]
 refine held_eff1 rfl (by simp [Region.wanted, yielded]) fun K hK => ?_
 have hc1 := hS.1.cell 0
 have hc2 := hS.2.1.cell 0
 have hc3 := hS.2.2.1.cell 0
 have hf1 := hS.1.frozen 0
 have hf2 := hS.2.1.frozen 0
 have hf3 := hS.2.2.1.frozen 0
 go_simp
 clear hc1 hc2 hc3 hf1 hf2 hf3
 refine held_go hK (by exact same_set1 hS) fun hS => ?_
 clear hK K
 try simp only [Act.put, zpA, zpB, zpC]
 refine held_eff1 rfl (by simp [Region.wanted, yielded]) fun K hK => ?_
 have hc1 := hS.1.cell 0
 have hc2 := hS.2.1.cell 0
 have hc3 := hS.2.2.1.cell 0
 have hf1 := hS.1.frozen 0
 have hf2 := hS.2.1.frozen 0
 have hf3 := hS.2.2.1.frozen 0
 go_simp
 clear hc1 hc2 hc3 hf1 hf2 hf3
 refine held_go hK (by exact same_set2 hS) fun hS => ?_
 clear hK K
 try simp only [Act.put, zpA, zpB, zpC]
 refine held_eff1 rfl (by simp [Region.wanted, yielded]) fun K hK => ?_
 have hc1 := hS.1.cell 0
 have hc2 := hS.2.1.cell 0
 have hc3 := hS.2.2.1.cell 0
 have hf1 := hS.1.frozen 0
 have hf2 := hS.2.1.frozen 0
 have hf3 := hS.2.2.1.frozen 0
 go_simp
 clear hc1 hc2 hc3 hf1 hf2 hf3
 refine held_go hK (by exact same_set3 hS) fun hS => ?_
 clear hK K
 try simp only [Act.put, zpA, zpB, zpC]
 refine held_pure (v := ?_) rfl rfl (by simp [Region.wanted, yielded]) hS ?_ ?_
 rotate_left
 ·intro w hw; go_simp; try with_reducible rfl
 try simp only [Act.put, zpA, zpB, zpC]
 refine held_end ?_
 have hc1 := hS.1.cell 0
 have hc2 := hS.2.1.cell 0
 have hc3 := hS.2.2.1.cell 0
 have HB2 := Lib.hid hS.2.2.2
 clear hS
 go_wp2
 refine bodyPost_ret (v := .tuple #[.int .i64 V, .int .i64 S, .int .i64 N, .int .i64 E2]) (by simp [results, Tryz.results37, go_sem, hc1, hc2, hc3]) rfl ?_
 exact ⟨rfl, by rw [← Hb.out]; exact HB2.out⟩
end Go.Proofs.YtjpjalmilfgckaaGreatDoor
namespace Go.Proofs.YtjpjalmilfgckaaGreatDoor
open Go.RowKit
theorem iterI_err {σ : Type} {f : Nat → σ → Got σ} {k n : Nat} {s t : σ} {e : Nat} (h : iterI f k s = .ok t) (he : f k t = .error e) (hk : k < n) : iterI f n s = .error e := by
 induction n with
 | zero => omega
 | succ n ih =>
  rw [iterI]
  rcases Nat.lt_or_ge k n with h1 | h1
  ·rw [ih h1]
   rfl
  ·obtain rfl : k = n := by omega
   rw [h, thenG_ok, he]
theorem iterI_ok {σ : Type} {f : Nat → σ → Got σ} {k : Nat} {s t u : σ} (h : iterI f k s = .ok t) (he : f k t = .ok u) : iterI f (k + 1) s = .ok u := by
 rw [iterI, h, thenG_ok, he]
theorem colD_at {cs : List Co} {k : Nat} {c : Co} (h : cs[k]? = some c) (n : Int) (s : TabS) : colD cs n k s = thenG (getC c.2.2.1 c.2.2.2.1 s.2 n) fun p => .ok (s.1 ++ [p.1], s.2.drop p.2) := by
 unfold colD
 rw [h]
theorem itemsT_snoc (t : List (List Cl)) (ws : List Int) (w : Int) : itemsT t (ws ++ [w]) = itemsT t ws ++ [(t.map fun l => (l[ws.length]?).getD nullC, w)] := by
 unfold itemsT
 rw [List.length_append, List.length_singleton, List.range_succ, List.map_append]
 congr 1
 ·refine List.map_congr_left fun i hi => ?_
  have := List.mem_range.1 hi
  rw [List.getElem?_append_left this]
 ·simp
def rowTo (t : List (List Cl)) (i j : Nat) : List Cl := (t.take j).map fun l => (l[i]?).getD nullC
theorem rowTo_zero (t : List (List Cl)) (i : Nat) : rowTo t i 0 = [] := rfl
theorem rowTo_succ (t : List (List Cl)) (i j : Nat) (l : List Cl) (h : t[j]? = some l) : rowTo t i (j + 1) = rowTo t i j ++ [(l[i]?).getD nullC] := by
 unfold rowTo
 rw [List.take_add_one, h]
 simp
theorem rowTo_all (t : List (List Cl)) (i : Nat) : rowTo t i t.length = t.map fun l => (l[i]?).getD nullC := by
 unfold rowTo
 rw [List.take_length]
def hdV (h : Hd) : Value := .slice h.1 h.2.1 h.2.2
def tabV (hs : List Hd) (n : Nat) : List Value := hs.map hdV ++ List.replicate (n - hs.length) (.slice none 0 0)
theorem tabV_zero (n : Nat) : tabV [] n = List.replicate n (.slice none 0 0) := by simp [tabV]
theorem tabV_set (hs : List Hd) (n : Nat) (h : Hd) (hn : hs.length < n) : (tabV hs n).set hs.length (hdV h) = tabV (hs ++ [h]) n := by
 unfold tabV
 rw [List.set_append_right _ _ (by simp), List.length_map, Nat.sub_self, List.length_append, List.length_singleton, List.map_append, List.append_assoc]
 congr 1
 obtain ⟨k, hk⟩ : ∃ k, n - hs.length = k + 1 := ⟨n - hs.length - 1, by omega⟩
 rw [hk, show n - (hs.length + 1) = k by omega, List.replicate_succ]
 rfl
theorem tabV_at {hs : List Hd} {n k : Nat} (hn : hs.length = n) {h : Hd} (hk : hs[k]? = some h) : (tabV hs n)[k]? = some (hdV h) := by
 unfold tabV
 have := (List.getElem?_eq_some_iff.1 hk).1
 rw [List.getElem?_append_left (by simpa using this), List.getElem?_map, hk]
 rfl
def asIt (t : List (List Cl)) : List It := t.map fun l => (l, 0)
def ListsOwn (w : World) (base : Nat) (hs : List Hd) (t : List (List Cl)) : Prop := RowsOwn w base hs (asIt t)
section
variable {w w' : World} {base : Nat} {hs : List Hd} {t : List (List Cl)}
theorem ListsOwn.nil : ListsOwn w base [] [] := RowsOwn.nil
theorem ListsOwn.len (h : ListsOwn w base hs t) : hs.length = t.length := by have := h.1; simpa [asIt] using this
theorem ListsOwn.below (h : ListsOwn w base hs t) (hb : Below w.heap.size w w') : ListsOwn w' base hs t := RowsOwn.below h hb
theorem ListsOwn.far (h : ListsOwn w base hs t) {g : Nat} {ty : TypeId} {cs : Array Value} (hb : Blk w g ty cs) (hne : 23 ≠ ty) (i : Nat) (u : Value) : ListsOwn (w.setCell ⟨g, i, none⟩ u) base hs t := RowsOwn.far h hb hne i u
theorem ListsOwn.snoc {hd : Hd} {l : List Cl} (h : ListsOwn w base hs t) (h1 : w.ownsRow base 23 3 (.slice hd.1 hd.2.1 hd.2.2) hd.2.1 (cls l)) : ListsOwn w base (hs ++ [hd]) (t ++ [l]) := by
 have := RowsOwn.snoc (it := (l, 0)) h h1
 unfold ListsOwn asIt
 rw [List.map_append]
 exact this
theorem ListsOwn.at_ (h : ListsOwn w base hs t) {k : Nat} {hd : Hd} {l : List Cl} (h1 : hs[k]? = some hd) (h2 : t[k]? = some l) : Reads w w.heap.size 3 hd.1 hd.2.1 (cls l) ∧ hd.2.1 ≤ hd.2.2 ∧ hd.2.2 ≤ maxLen := by
 have := (RowsOwn.at_ h).2 k hd (l, 0) h1 (by simp [asIt, h2])
 exact this
end
end Go.Proofs.YtjpjalmilfgckaaGreatDoor
