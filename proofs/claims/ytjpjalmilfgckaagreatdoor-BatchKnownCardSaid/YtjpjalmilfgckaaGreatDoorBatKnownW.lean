/- The closed law BatchKnown, walked. Conditions: none of its own; each lemma states what it asks. -/
import Derived.Test.YtjpjalmilfgckaaGreatDoorBk29
set_option linter.unusedVariables false
set_option linter.unusedSimpArgs false
namespace Go.Proofs.YtjpjalmilfgckaaGreatDoor
open Go.RowKit
theorem mk33 : ∀ w, (Instr.makeSlice 32 (.int .i64 33) (.int .i64 33)).run Tryz.prog w = .ok (.slice (some ⟨w.heap.size, 0, none⟩) 33 33) (w.alloc (.cells (cos (manyC 0)).toArray 45)) := fun w => by kernel_rfl
def bigN : List UInt8 := [77, 83, 1, 255, 255, 255, 255, 7, 255, 255, 255, 255, 255, 255, 255, 255, 255, 1, 128, 128, 64]
/-- What the last region keeps. -/
structure LsB (w : World) (A : Option Addr) (n : Nat) (xs : List UInt8) (gb gm go : Nat) (wc : World) : Prop where
  x : XnB w A n xs wc
  big : Blk wc gb 5 (u8s bigN).toArray
  many : Blk wc gm 45 (cos (manyC 33)).toArray
  odd : Reads wc wc.heap.size 7 (some ⟨go, 0, none⟩) 1 (cos [(0, ⟨#[]⟩, 6, false, false, 0, ⟨#[]⟩)])
section
variable {w wc w' : World} {A : Option Addr} {n gb gm go : Nat} {xs : List UInt8}
theorem LsB.on (h : LsB w A n xs gb gm go wc) (hb : Below wc.heap.size wc w') : LsB w A n xs gb gm go w' := ⟨h.x.on hb, h.big.on hb, h.many.on hb, h.odd.on hb⟩
theorem LsB.bigR (h : LsB w A n xs gb gm go wc) : Reads wc wc.heap.size 1 (some ⟨gb, 0, none⟩) 21 (u8s bigN) := h.big.readsN 1 21 _ rfl rfl
theorem LsB.bigT (h : LsB w A n xs gb gm go wc) (k : Nat) (hk : k ≤ 21) : Reads wc wc.heap.size 1 (some ⟨gb, 0, none⟩) k (u8s (bigN.take k)) := by
  have := h.bigR.head hk
  rwa [Nat.mul_one, u8s_take] at this
theorem LsB.manyR (h : LsB w A n xs gb gm go wc) : Reads wc wc.heap.size 7 (some ⟨gm, 0, none⟩) 33 (cos (manyC 33)) := h.many.readsN 7 33 _ rfl (by rw [cos_length]; rfl)
theorem LsB.many32 (h : LsB w A n xs gb gm go wc) : Reads wc wc.heap.size 7 (some ⟨gm, 0, none⟩) 32 (cos (List.replicate 32 coB)) := by
  have := h.manyR.head (k := 32) (by decide)
  rwa [show (cos (manyC 33)).take (32 * 7) = cos (List.replicate 32 coB) from by kernel_rfl] at this
end
theorem manyC_at : ∀ j, j < 33 → (cos (manyC j)).toArray[j * 7 + 2]? = some (.int .i64 0) := by
  intro j h
  obtain ⟨d, hd⟩ : ∃ d, 33 = j + 1 + d := ⟨32 - j, by omega⟩
  have e1 : manyC j = List.replicate j coB ++ (coZ :: List.replicate d coZ) := by
    unfold manyC
    rw [show 33 - j = d + 1 by omega, List.replicate_succ]
  have hl : (cos (List.replicate j coB)).length = j * 7 := by rw [cos_length, List.length_replicate]; omega
  have e3 : ∀ x (t : List Co), cos (List.replicate j coB ++ (x :: t)) = cos (List.replicate j coB) ++ (coV x ++ cos t) := fun x t => by simp [cos]
  rw [e1, e3, List.getElem?_toArray, List.getElem?_append_right (by omega), hl, Nat.add_sub_cancel_left]
  rfl
/-- What the columns' loop keeps. -/
structure LoB (w : World) (A : Option Addr) (n : Nat) (xs : List UInt8) (gb gm j : Nat) (wc : World) : Prop where
  below : Below w.heap.size w wc
  x : Reads wc gb 1 A n (u8s xs)
  big : Blk wc gb 5 (u8s bigN).toArray
  many : Blk wc gm 45 (cos (manyC j)).toArray
  tab : Tab2 gb wc
  lt : gb < gm
  low : w.heap.size ≤ gb
theorem LoB.set {w wc : World} {A : Option Addr} {n gb gm j : Nat} {xs : List UInt8} (h : LoB w A n xs gb gm j wc) (hj : j < 33) : LoB w A n xs gb gm (j + 1) (wc.setCell ⟨gm, j * 7 + 2, none⟩ (.int .i64 1)) := by
  have hl := h.lt
  have hw := h.low
  refine ⟨h.below.setCell (p := ⟨gm, j * 7 + 2, none⟩) (by show w.heap.size ≤ gm; omega) _, h.x.setCell (p := ⟨gm, j * 7 + 2, none⟩) (Nat.le_of_lt hl) _, h.big.far (p := ⟨gm, j * 7 + 2, none⟩) (Nat.ne_of_lt hl) _, ?_, h.tab.keep ((Below.refl _ _).setCell (p := ⟨gm, j * 7 + 2, none⟩) (Nat.le_of_lt hl) _), hl, hw⟩
  have := h.many.set_ (j * 7 + 2) (.int .i64 1)
  rwa [List.setIfInBounds_toArray, manyC_set hj] at this
theorem LoB.last {w wc : World} {A : Option Addr} {n gb gm : Nat} {xs : List UInt8} (h : LoB w A n xs gb gm 33 wc) : LsB w A n xs gb gm wc.heap.size (wc.alloc (.cells #[.int .i64 0, .string ⟨#[]⟩, .int .i64 6, .bool false, .bool false, .int .i64 0, .string ⟨#[]⟩] 45)) := by
  have hl := h.big.lt
  exact ⟨(XnB.mk h.below (h.x.more (Nat.le_of_lt hl)) (h.tab.more (Nat.le_of_lt hl))).al _, h.big.alloc _, h.many.alloc _, reads_litc wc _ [(0, ⟨#[]⟩, 6, false, false, 0, ⟨#[]⟩)] _ 1 rfl rfl rfl⟩
theorem oddC_ok : CoOk [(0, ⟨#[]⟩, 6, false, false, 0, ⟨#[]⟩)] := by
  intro c hc
  obtain rfl := List.mem_singleton.1 hc
  simp
theorem coNil : CoOk [] := by simp [CoOk]
theorem itNil : ItOk [] := by simp [ItOk]
theorem two_ex (w : World) : Calls Tryz.prog 10 #[] w fun e w' => ∃ gt, e = .returned (.slice (some ⟨gt, 0, none⟩) 2 2) ∧ Reads w' w'.heap.size 7 (some ⟨gt, 0, none⟩) 2 (cos twoC) ∧ Below w.heap.size w w' :=
  (two_any w).mono fun e w' h => ⟨_, h⟩
theorem plb_join {P : Program} {ops : Array Oper} {Q : Exit → Act → World → Prop} {S : World → Prop} {i j : Nat} {p : PlanB} {a : Act} {w : World} {Φ : Prop} (h1 : Hid Φ → wpPlb P ops Q S (.eff i (.eff j p)) a w) (h2 : Hid Φ → wpPlb P ops Q S (.eff j (.eff i p)) a w) (h : Φ) : wpPlb P ops Q S (.both i j p) a w := plb_both (h1 (Lib.hid h)) (h2 (Lib.hid h))
set_option maxRecDepth 100000 in
set_option maxHeartbeats 8000000 in
theorem batchKnown_walk (w : World) (hT : Tab2 w.heap.size w) : Calls Tryz.prog 3 #[] w fun e w' => e = .returned (.bool true) ∧ Below w.heap.size w w' := by
  obtain ⟨i0, hi0, hl0, hi1, hl2⟩ := info_parts u8_info
  have Hm := Lib.hid (kb_mem w hT)
  clear hT
  go_enter Tryz.func3, Tryz.ntmps3
  go_wp2
  rw [show w.heap.size + 1 + 1 + 1 + 1 = w.heap.size + 4 from rfl, show w.heap.size + 1 + 1 + 1 = w.heap.size + 3 from rfl, show w.heap.size + 1 + 1 = w.heap.size + 2 from rfl]
  generalize hW : (((((w.alloc (.cells #[.bool false, .int .i64 1, .string ⟨#[]⟩, .bool false, .int .i64 0, .string ⟨#[98]⟩] 23)).alloc (.cells #[.bool false, .int .i64 1, .string ⟨#[]⟩, .bool false, .int .i64 0, .string ⟨#[98]⟩] 23)).alloc (.cells #[.bool false, .int .i64 7, .string ⟨#[]⟩, .bool false, .int .i64 0, .string ⟨#[]⟩] 23)).alloc (.cells #[.slice (some ⟨w.heap.size, 0, none⟩) 2 2, .int .i64 2, .slice (some ⟨w.heap.size + 1, 0, none⟩) 2 2, .int .i64 2, .slice (some ⟨w.heap.size + 2, 0, none⟩) 2 2, .int .i64 (-9223372036854775808)] 26)).alloc (.cells #[.int .i64 (-9223372036854775808), .int .i64 (-1), .int .i64 0, .int .i64 1, .int .i64 127, .int .i64 128, .int .i64 2147483647, .int .i64 2147483648, .int .i64 9223372036854775807] 3)) = W
  have H := Lib.hid (Hm.out W hW.symm)
  clear hW Hm
  go_loopw [3] (fun iv wr => ∃ i : Nat, i ≤ 9 ∧ iv = .int .i64 (i : Int) ∧ Hid (KnB w wr)) (fun iv _ => 9 - (intOf iv).toNat)
  case atStart => exact ⟨0, by omega, rfl, H⟩
  case round =>
    clear H
    obtain ⟨i, hi, rfl, H⟩ := hrel
    by_cases hi9 : i < 9
    · have d1 : decide ((i : Int) < 9) = true := by simp; omega
      generalize wr = Wi at *
      go_wp2
      go_loopw [4] (fun kv wr => ∃ k : Nat, k ≤ 9 ∧ kv = .int .i64 (k : Int) ∧ Hid (KnB w wr)) (fun kv _ => 9 - (intOf kv).toNat)
      case atStart => exact ⟨0, by omega, rfl, H⟩
      case round =>
        clear H
        obtain ⟨k, hk, rfl, H⟩ := hrel
        by_cases hk9 : k < 9
        · have d2 : decide ((k : Int) < 9) = true := by simp; omega
          as_aux_lemma =>
            generalize wr = W0 at *
            obtain ⟨m, hm⟩ : ∃ m, m = i % 4 := ⟨_, rfl⟩
            have hm3 : m ≤ 3 := by omega
            have hmi : (i : Int).tmod 4 = (m : Int) := by rw [hm]; rfl
            obtain ⟨gb, hgb⟩ : ∃ gb, gb = W0.heap.size := ⟨_, rfl⟩
            have Hgb := Lib.hid hgb
            have hmi3 : (m : Int) ≤ 3 := by omega
            have hi9i : (i : Int) < 9 := by omega
            have hk9i : (k : Int) < 9 := by omega
            have HEi := Lib.hid (show ∀ w', Below gb W0 w' → w'.cell? ⟨w.heap.size + 4, i, none⟩ = some (.int .i64 (endB i)) from fun w' h => (H.out.on (hgb ▸ h)).end_ hi9)
            have HEk := Lib.hid (show ∀ w', Below gb W0 w' → w'.cell? ⟨w.heap.size + 4, k, none⟩ = some (.int .i64 (endB k)) from fun w' h => (H.out.on (hgb ▸ h)).end_ hk9)
            have HNi := Lib.hid (endB_in hi9)
            have HNk := Lib.hid (endB_in hk9)
            clear hm hgb
            go_wp2
            have hS : Below gb W0 W0.drew := (Below.refl _ _).drew
            refine wp_region_keep (fun w' => Below gb W0 w') [(0, false), (1, false), (2, false), (3, false), (4, false), (5, false), (6, false), (7, false), (8, false), (9, false), (10, false), (11, false), (12, false), (13, true), (14, true)] (by kernel_rfl) (by kernel_rfl) (by kernel_rfl) (fun d _ _ _ _ h => by cases d <;> exact h) ?_
            refine held_pure (v := ?_) rfl rfl (by simp [Region.wanted, yielded]) hS ?_ ?_
            rotate_left
            · intro w hw; go_simp; try with_reducible rfl
            try simp only [Act.put, List.setIfInBounds_toArray, List.set_cons_succ, List.set_cons_zero]
            refine held_pure (v := ?_) rfl rfl (by simp [Region.wanted, yielded]) hS ?_ ?_
            rotate_left
            · intro w hw; go_simp; try with_reducible rfl
            try simp only [Act.put, List.setIfInBounds_toArray, List.set_cons_succ, List.set_cons_zero]
            refine held_pure (v := ?_) rfl rfl (by simp [Region.wanted, yielded]) hS ?_ ?_
            rotate_left
            · intro w hw; go_simp; try with_reducible rfl
            try simp only [Act.put, List.setIfInBounds_toArray, List.set_cons_succ, List.set_cons_zero]
            refine held_pure (v := ?_) rfl rfl (by simp [Region.wanted, yielded]) hS ?_ ?_
            rotate_left
            · intro w hw; have c0 := HEi.out w hw; clear hw; go_simp; try with_reducible rfl
            try simp only [Act.put, List.setIfInBounds_toArray, List.set_cons_succ, List.set_cons_zero]
            refine held_pure (v := ?_) rfl rfl (by simp [Region.wanted, yielded]) hS ?_ ?_
            rotate_left
            · intro w hw; go_simp; try with_reducible rfl
            try simp only [Act.put, List.setIfInBounds_toArray, List.set_cons_succ, List.set_cons_zero]
            refine held_pure (v := ?_) rfl rfl (by simp [Region.wanted, yielded]) hS ?_ ?_
            rotate_left
            · intro w hw; go_simp; try with_reducible rfl
            try simp only [Act.put, List.setIfInBounds_toArray, List.set_cons_succ, List.set_cons_zero]
            refine held_pure (v := ?_) rfl rfl (by simp [Region.wanted, yielded]) hS ?_ ?_
            rotate_left
            · intro w hw; go_simp; try with_reducible rfl
            try simp only [Act.put, List.setIfInBounds_toArray, List.set_cons_succ, List.set_cons_zero]
            refine held_pure (v := ?_) rfl rfl (by simp [Region.wanted, yielded]) hS ?_ ?_
            rotate_left
            · intro w hw; have c0 := HEk.out w hw; clear hw; go_simp; try with_reducible rfl
            try simp only [Act.put, List.setIfInBounds_toArray, List.set_cons_succ, List.set_cons_zero]
            generalize endB i = ei at *
            generalize endB k = ek at *
            refine held_pure (v := ?_) rfl rfl (by simp [Region.wanted, yielded]) hS ?_ ?_
            rotate_left
            · intro w hw; go_simp; try with_reducible rfl
            try simp only [Act.put, List.setIfInBounds_toArray, List.set_cons_succ, List.set_cons_zero]
            refine held_pure (v := ?_) rfl rfl (by simp [Region.wanted, yielded]) hS ?_ ?_
            rotate_left
            · intro w hw; go_simp; try with_reducible rfl
            try simp only [Act.put, List.setIfInBounds_toArray, List.set_cons_succ, List.set_cons_zero]
            refine held_pure (v := ?_) rfl rfl (by simp [Region.wanted, yielded]) hS ?_ ?_
            rotate_left
            · intro w hw; go_simp; try with_reducible rfl
            try simp only [Act.put, List.setIfInBounds_toArray, List.set_cons_succ, List.set_cons_zero]
            refine held_pure (v := ?_) rfl rfl (by simp [Region.wanted, yielded]) hS ?_ ?_
            rotate_left
            · intro w hw; go_simp; try with_reducible rfl
            try simp only [Act.put, List.setIfInBounds_toArray, List.set_cons_succ, List.set_cons_zero]
            refine held_pure (v := ?_) rfl rfl (by simp [Region.wanted, yielded]) hS ?_ ?_
            rotate_left
            · intro w hw; go_simp; try with_reducible rfl
            try simp only [Act.put, List.setIfInBounds_toArray, List.set_cons_succ, List.set_cons_zero]
            have HB0 := Lib.hid (show Below gb W0 (W0.alloc (.cells #[.int .i64 0, .int .i64 0, .slice none 0 0] 30)).drew by rw [Hgb.out]; exact (bal (Below.refl _ _) _).drew)
            have HX0 := Lib.hid (show Blk (W0.alloc (.cells #[.int .i64 0, .int .i64 0, .slice none 0 0] 30)).drew W0.heap.size 30 #[.int .i64 0, .int .i64 0, .slice none 0 0] from (Blk.new _ _ _).drew)
            refine held_eff1 rfl (by simp [Region.wanted, yielded]) fun K hK => ?_
            go_simp
            refine held_go hK (by exact HB0.out) fun hS => ?_
            clear hK K
            try simp only [Act.put, List.setIfInBounds_toArray, List.set_cons_succ, List.set_cons_zero]
            rw [← Hgb.out] at HX0 ⊢
            generalize (W0.alloc (.cells #[.int .i64 0, .int .i64 0, .slice none 0 0] 30)).drew = W1 at *
            have f0 := HX0.out.frozen 0
            have f1 := HX0.out.frozen 1
            have f2 := HX0.out.frozen 2
            have a0 := HX0.out.cell 0
            have a1 := HX0.out.cell 1
            have a2 := HX0.out.cell 2
            refine held_eff1 rfl (by simp [Region.wanted, yielded]) fun K hK => ?_
            go_simp
            clear f0 f1 f2 a0 a1 a2
            have HX1 := Lib.hid (((HX0.out.set_ 0 (.int .i64 ei)).set_ 1 (.int .i64 ek)).set_ 2 (.slice (some ⟨w.heap.size + 3, 0, none⟩) m 3))
            simp only [List.setIfInBounds_toArray, List.set_cons_zero, List.set_cons_succ] at HX1
            have HB1 := Lib.hid (((HB0.out.setCell (p := ⟨gb, 0, none⟩) (Nat.le_refl _) (.int .i64 ei)).setCell (p := ⟨gb, 1, none⟩) (Nat.le_refl _) (.int .i64 ek)).setCell (p := ⟨gb, 2, none⟩) (Nat.le_refl _) (.slice (some ⟨w.heap.size + 3, 0, none⟩) m 3))
            refine held_go hK (by exact HB1.out) fun hS => ?_
            clear hK K
            try simp only [Act.put, List.setIfInBounds_toArray, List.set_cons_succ, List.set_cons_zero]
            refine held_end ?_
            clear HB0 HX0 hS
            generalize ((W1.setCell ⟨gb, 0, none⟩ (.int .i64 ei)).setCell ⟨gb, 1, none⟩ (.int .i64 ek)).setCell ⟨gb, 2, none⟩ (.slice (some ⟨w.heap.size + 3, 0, none⟩) m 3) = W2 at *
            have HB1 := Lib.hid (show Below W0.heap.size W0 W2 by rw [← Hgb.out]; exact HB1.out)
            have H2 := Lib.hid (H.out.on HB1.out)
            have HEk := Lib.hid (show ∀ w', Below W2.heap.size W2 w' → w'.cell? ⟨w.heap.size + 4, k, none⟩ = some (.int .i64 ek) from fun w' h => HEk.out _ (Hgb.out ▸ bon HB1.out h))
            have HL0 := Lib.hid (show ∀ w', Below W2.heap.size W2 w' → w'.cell? ⟨gb, 0, none⟩ = some (.int .i64 ei) from fun w' h => (HX1.out.on h).cell 0)
            have HL1 := Lib.hid (show ∀ w', Below W2.heap.size W2 w' → w'.cell? ⟨gb, 1, none⟩ = some (.int .i64 ek) from fun w' h => (HX1.out.on h).cell 1)
            have HL2 := Lib.hid (show ∀ w', Below W2.heap.size W2 w' → w'.cell? ⟨gb, 2, none⟩ = some (.slice (some ⟨w.heap.size + 3, 0, none⟩) m 3) from fun w' h => (HX1.out.on h).cell 2)
            have Him := Lib.hid (show ∀ w', Below W2.heap.size W2 w' → ItemsAt w' w'.heap.size (some ⟨w.heap.size + 3, 0, none⟩) m (itKn.take m) from fun w' h => (H2.out.on h).items.head hm3)
            clear HEi H HB1 Hgb
            go_wp2
            have hS : Below W2.heap.size W2 W2.drew := (Below.refl _ _).drew
            refine wp_region_keep (fun w' => Below W2.heap.size W2 w') [(1, false), (2, false), (3, false), (4, false), (5, false), (6, false), (7, false), (8, false), (9, false), (10, false), (11, false), (12, false), (13, false), (14, false), (0, true), (15, true), (16, false), (17, false), (19, false), (18, true), (20, true), (21, false), (22, false)] (by kernel_rfl) (by kernel_rfl) (by kernel_rfl) (fun d _ _ _ _ h => by cases d <;> exact h) ?_
            refine held_pure (v := ?_) rfl rfl (by simp [Region.wanted, yielded]) hS ?_ ?_
            rotate_left
            · intro w hw; have c0 := HL0.out w hw; have c1 := HL1.out w hw; have c2 := HL2.out w hw; clear hw; go_simp; try with_reducible rfl
            try simp only [Act.put, List.setIfInBounds_toArray, List.set_cons_succ, List.set_cons_zero]
            refine held_pure (v := ?_) rfl rfl (by simp [Region.wanted, yielded]) hS ?_ ?_
            rotate_left
            · intro w hw; go_simp; try with_reducible rfl
            try simp only [Act.put, List.setIfInBounds_toArray, List.set_cons_succ, List.set_cons_zero]
            refine held_pure (v := ?_) rfl rfl (by simp [Region.wanted, yielded]) hS ?_ ?_
            rotate_left
            · intro w hw; go_simp; try with_reducible rfl
            try simp only [Act.put, List.setIfInBounds_toArray, List.set_cons_succ, List.set_cons_zero]
            refine held_pure (v := ?_) rfl rfl (by simp [Region.wanted, yielded]) hS ?_ ?_
            rotate_left
            · intro w hw; go_simp; try with_reducible rfl
            try simp only [Act.put, List.setIfInBounds_toArray, List.set_cons_succ, List.set_cons_zero]
            refine held_pure (v := ?_) rfl rfl (by simp [Region.wanted, yielded]) hS ?_ ?_
            rotate_left
            · intro w hw; have c0 := HEk.out w hw; clear hw; go_simp; try with_reducible rfl
            try simp only [Act.put, List.setIfInBounds_toArray, List.set_cons_succ, List.set_cons_zero]
            refine held_pure (v := ?_) rfl rfl (by simp [Region.wanted, yielded]) hS ?_ ?_
            rotate_left
            · intro w hw; go_simp; try with_reducible rfl
            try simp only [Act.put, List.setIfInBounds_toArray, List.set_cons_succ, List.set_cons_zero]
            refine held_pure (v := ?_) rfl rfl (by simp [Region.wanted, yielded]) hS ?_ ?_
            rotate_left
            · intro w hw; go_simp; try with_reducible rfl
            try simp only [Act.put, List.setIfInBounds_toArray, List.set_cons_succ, List.set_cons_zero]
            refine held_pure (v := ?_) rfl rfl (by simp [Region.wanted, yielded]) hS ?_ ?_
            rotate_left
            · intro w hw; go_simp; try with_reducible rfl
            try simp only [Act.put, List.setIfInBounds_toArray, List.set_cons_succ, List.set_cons_zero]
            refine held_pure (v := ?_) rfl rfl (by simp [Region.wanted, yielded]) hS ?_ ?_
            rotate_left
            · intro w hw; have c0 := HEk.out w hw; clear hw; go_simp; try with_reducible rfl
            try simp only [Act.put, List.setIfInBounds_toArray, List.set_cons_succ, List.set_cons_zero]
            refine held_pure (v := ?_) rfl rfl (by simp [Region.wanted, yielded]) hS ?_ ?_
            rotate_left
            · intro w hw; go_simp; try with_reducible rfl
            try simp only [Act.put, List.setIfInBounds_toArray, List.set_cons_succ, List.set_cons_zero]
            refine held_pure (v := ?_) rfl rfl (by simp [Region.wanted, yielded]) hS ?_ ?_
            rotate_left
            · intro w hw; go_simp; try with_reducible rfl
            try simp only [Act.put, List.setIfInBounds_toArray, List.set_cons_succ, List.set_cons_zero]
            refine held_pure (v := ?_) rfl rfl (by simp [Region.wanted, yielded]) hS ?_ ?_
            rotate_left
            · intro w hw; go_simp; try with_reducible rfl
            try simp only [Act.put, List.setIfInBounds_toArray, List.set_cons_succ, List.set_cons_zero]
            refine held_pure (v := ?_) rfl rfl (by simp [Region.wanted, yielded]) hS ?_ ?_
            rotate_left
            · intro w hw; go_simp; try with_reducible rfl
            try simp only [Act.put, List.setIfInBounds_toArray, List.set_cons_succ, List.set_cons_zero]
            refine held_pure (v := ?_) rfl rfl (by simp [Region.wanted, yielded]) hS ?_ ?_
            rotate_left
            · intro w hw; go_simp; try with_reducible rfl
            try simp only [Act.put, List.setIfInBounds_toArray, List.set_cons_succ, List.set_cons_zero]
            refine held_eff1 rfl (by simp [Region.wanted, yielded]) fun K hK => ?_
            go_simp
            with_reducible refine (two_ex _).mono ?_
            rintro e w2 ⟨gt, rfl, hr, hb⟩
            have HS := Lib.hid (bon hS hb)
            have HR := Lib.hid hr
            clear hr hb
            refine held_go hK (by exact HS.out) fun hS => ?_
            clear hK K
            try simp only [Act.put, List.setIfInBounds_toArray, List.set_cons_succ, List.set_cons_zero]
            clear HS
            refine held_eff1 rfl (by simp [Region.wanted, yielded]) fun K hK => ?_
            go_simp
            with_reducible refine (batchWrites_walk (some ⟨gt, 0, none⟩) 2 2 twoC ei ek (some ⟨w.heap.size + 3, 0, none⟩) m 3 (itKn.take m) ek ek (some ⟨w.heap.size + 3, 0, none⟩) m 3 (itKn.take m) _ HR.out (by decide) (by decide) twoC_ok HNi.out HNk.out (Him.out _ hS) hm3 (by decide) (itKn_take m) HNk.out HNk.out (Him.out _ hS) hm3 (by decide) (itKn_take m) (H2.out.on hS).tab).mono ?_
            rintro e w3 ⟨rfl, hb⟩
            have HS := Lib.hid (bon hS hb)
            clear hb
            refine held_go hK (by exact HS.out) fun hS => ?_
            clear hK K
            try simp only [Act.put, List.setIfInBounds_toArray, List.set_cons_succ, List.set_cons_zero]
            clear HS HR
            refine held_pure (v := ?_) rfl rfl (by simp [Region.wanted, yielded]) hS ?_ ?_
            rotate_left
            · intro w hw; go_simp; try with_reducible rfl
            try simp only [Act.put, List.setIfInBounds_toArray, List.set_cons_succ, List.set_cons_zero]
            refine held_pure (v := ?_) rfl rfl (by simp [Region.wanted, yielded]) hS ?_ ?_
            rotate_left
            · intro w hw; go_simp; try with_reducible rfl
            try simp only [Act.put, List.setIfInBounds_toArray, List.set_cons_succ, List.set_cons_zero]
            refine held_pure (v := ?_) rfl rfl (by simp [Region.wanted, yielded]) hS ?_ ?_
            rotate_left
            · intro w hw; have c0 := HL0.out w hw; have c1 := HL1.out w hw; have c2 := HL2.out w hw; clear hw; go_simp; try with_reducible rfl
            try simp only [Act.put, List.setIfInBounds_toArray, List.set_cons_succ, List.set_cons_zero]
            refine held_eff1 rfl (by simp [Region.wanted, yielded]) fun K hK => ?_
            go_simp
            with_reducible refine (two_ex _).mono ?_
            rintro e w2 ⟨gt, rfl, hr, hb⟩
            have HS := Lib.hid (bon hS hb)
            have HR := Lib.hid hr
            clear hr hb
            refine held_go hK (by exact HS.out) fun hS => ?_
            clear hK K
            try simp only [Act.put, List.setIfInBounds_toArray, List.set_cons_succ, List.set_cons_zero]
            clear HS
            refine held_eff1 rfl (by simp [Region.wanted, yielded]) fun K hK => ?_
            go_simp
            with_reducible refine (batchBack_walk (some ⟨gt, 0, none⟩) 2 2 twoC ei ek (some ⟨w.heap.size + 3, 0, none⟩) m 3 (itKn.take m) _ HR.out (by decide) (by decide) twoC_ok HNi.out HNk.out (Him.out _ hS) hm3 (by decide) (itKn_take m) (H2.out.on hS).tab).mono ?_
            rintro e w4 ⟨rfl, hb⟩
            have HS := Lib.hid (bon hS hb)
            clear hb
            refine held_go hK (by exact HS.out) fun hS => ?_
            clear hK K
            try simp only [Act.put, List.setIfInBounds_toArray, List.set_cons_succ, List.set_cons_zero]
            clear HS HR
            refine held_pure (v := ?_) rfl rfl (by simp [Region.wanted, yielded]) hS ?_ ?_
            rotate_left
            · intro w hw; go_simp; try with_reducible rfl
            try simp only [Act.put, List.setIfInBounds_toArray, List.set_cons_succ, List.set_cons_zero]
            refine held_pure (v := ?_) rfl rfl (by simp [Region.wanted, yielded]) hS ?_ ?_
            rotate_left
            · intro w hw; go_simp; try with_reducible rfl
            try simp only [Act.put, List.setIfInBounds_toArray, List.set_cons_succ, List.set_cons_zero]
            refine held_end ?_
            have H := Lib.hid (H2.out.on hS)
            clear H2 HEk HL0 HL1 HL2 Him HX1 hS HNi HNk
            go_wp2
            go_roundw
            case rel => exact ⟨k + 1, by omega, by go_num, H⟩
            case measure => simp [intOf]; omega
        · have d2 : decide ((k : Int) < 9) = false := by simp; omega
          go_wp2
          go_roundw
          case rel => exact ⟨i + 1, by omega, by go_num, H⟩
          case measure => simp [intOf]; omega
    · have d1 : decide ((i : Int) < 9) = false := by simp; omega
      generalize wr = W3 at *
      clear hi hi9
      go_wp2_with fail
      with_reducible refine (two_any _).mono ?_
      rintro e w1 ⟨rfl, hr, hb⟩
      have H := Lib.hid (H.out.on hb)
      have HR := Lib.hid hr
      clear hr hb d1
      go_wp2_with fail
      with_reducible refine (benc_any (some ⟨W3.heap.size, 0, none⟩) 2 2 twoC 5 6 (some ⟨w.heap.size + 3, 0, none⟩) 3 3 itKn _ HR.out (by decide) H.out.items (by decide) (baOk_of (by decide) itKn_ok) itKn_ok H.out.tab).mono ?_
      rintro e w2 ⟨hb, ⟨-, Ax, cx, rfl, ho⟩ | ⟨h0, -⟩⟩
      case inr => exact absurd xKn_fits h0
      have HX := Lib.hid (show XnB w Ax 28 (xKn.take 28) w2 from ⟨(H.out.on hb).below, by
        have := (own_reads ho).head (k := 28) (show 28 ≤ xKn.length by rw [xKn_len]; decide)
        rw [Nat.mul_one, u8s_take] at this
        exact this, (H.out.on hb).tab⟩)
      have hcc := own_caps ho
      rw [show (encA twoC (5, 6, itKn)).length = 32 from xKn_len] at hcc ⊢
      have hcx : cx ≤ 9223372036854775807 := by have := hcc.2; simp only [maxLen] at this; omega
      have hcxi : (28 : Int) ≤ (cx : Int) := by omega
      have Hcc := Lib.hid hcc
      clear ho hb hcc H HR
      generalize xKn.take 28 = xt at HX
      have hxl : xt.length = 28 := reads_len HX.out.x
      have Hxl := Lib.hid hxl
      clear hxl
      go_wp2
      go_loopw [8] (fun iv wr => ∃ i : Nat, i ≤ 28 ∧ iv = .int .i64 (i : Int) ∧ Hid (XnB w Ax 28 xt wr)) (fun iv _ => 28 - (intOf iv).toNat)
      case atStart => exact ⟨0, by omega, rfl, HX⟩
      case round =>
        clear HX
        obtain ⟨i, hi, rfl, HX⟩ := hrel
        by_cases hi9 : i < 28
        · have d1 : decide ((i : Int) < 28) = true := by simp; omega
          generalize wr = W0 at *
          have hic : i ≤ cx := by have := Hcc.out.1; omega
          have hici : (i : Int) ≤ (cx : Int) := by omega
          have HXi := Lib.hid (show ∀ w', Below W0.heap.size W0 w' → Reads w' w'.heap.size 1 Ax i (u8s (xt.take i)) from fun w' h => by
            have := (HX.out.on h).x.head (k := i) hi
            rwa [Nat.mul_one, u8s_take] at this)
          go_wp2
          have hS : Below W0.heap.size W0 W0.drew := (Below.refl _ _).drew
          refine wp_region_keep (fun w' => Below W0.heap.size W0 w') [(1, false), (2, false), (3, false), (0, true), (4, true), (5, true), (6, false)] (by kernel_rfl) (by kernel_rfl) (by kernel_rfl) (fun d _ _ _ _ h => by cases d <;> exact h) ?_
          refine held_pure (v := ?_) rfl rfl (by simp [Region.wanted, yielded]) hS ?_ ?_
          rotate_left
          · intro w hw; go_simp; try with_reducible rfl
          try simp only [Act.put, List.setIfInBounds_toArray, List.set_cons_succ, List.set_cons_zero]
          refine held_pure (v := ?_) rfl rfl (by simp [Region.wanted, yielded]) hS ?_ ?_
          rotate_left
          · intro w hw; go_simp; try with_reducible rfl
          try simp only [Act.put, List.setIfInBounds_toArray, List.set_cons_succ, List.set_cons_zero]
          refine held_pure (v := ?_) rfl rfl (by simp [Region.wanted, yielded]) hS ?_ ?_
          rotate_left
          · intro w hw; go_simp; try with_reducible rfl
          try simp only [Act.put, List.setIfInBounds_toArray, List.set_cons_succ, List.set_cons_zero]
          refine held_eff1 rfl (by simp [Region.wanted, yielded]) fun K hK => ?_
          go_simp
          with_reducible refine (two_ex _).mono ?_
          rintro e w2 ⟨gt, rfl, hr, hb⟩
          have HS := Lib.hid (bon hS hb)
          have HR := Lib.hid hr
          clear hr hb
          refine held_go hK (by exact HS.out) fun hS => ?_
          clear hK K
          try simp only [Act.put, List.setIfInBounds_toArray, List.set_cons_succ, List.set_cons_zero]
          clear HS
          refine held_eff1 rfl (by simp [Region.wanted, yielded]) fun K hK => ?_
          go_simp
          with_reducible refine (summed_any Ax i cx (xt.take i) _ (HXi.out _ hS) (by omega) (HX.out.on hS).tab.ctab).mono ?_
          rintro e w3 ⟨A8, c8, rfl, q1, q2, q3, q4⟩
          have HS := Lib.hid (bon hS q4)
          have HR := Lib.hid (HR.out.on q4)
          have HQ := Lib.hid (own_reads q3)
          clear q3 q4
          refine held_go hK (by exact HS.out) fun hS => ?_
          clear hK K
          try simp only [Act.put, List.setIfInBounds_toArray, List.set_cons_succ, List.set_cons_zero]
          clear HS
          refine held_eff1 rfl (by simp [Region.wanted, yielded]) fun K hK => ?_
          go_simp
          with_reducible refine (batchReads_walk (some ⟨gt, 0, none⟩) 2 2 twoC A8 (i + 4) c8 (xt.take i ++ sumB (crcS (xt.take i))) _ HR.out (by decide) (by decide) twoC_ok HQ.out q1 q2 (HX.out.on hS).tab).mono ?_
          rintro e w4 ⟨rfl, hb⟩
          have HS := Lib.hid (bon hS hb)
          clear hb q1 q2
          refine held_go hK (by exact HS.out) fun hS => ?_
          clear hK K
          try simp only [Act.put, List.setIfInBounds_toArray, List.set_cons_succ, List.set_cons_zero]
          clear HS HR HQ
          refine held_pure (v := ?_) rfl rfl (by simp [Region.wanted, yielded]) hS ?_ ?_
          rotate_left
          · intro w hw; go_simp; try with_reducible rfl
          try simp only [Act.put, List.setIfInBounds_toArray, List.set_cons_succ, List.set_cons_zero]
          refine held_end ?_
          have HX := Lib.hid (HX.out.on hS)
          clear HXi hS hic hici
          go_wp2
          go_loopw [9] (fun cv wr => ∃ c : Nat, c ≤ 256 ∧ cv = .int .i64 (c : Int) ∧ Hid (XnB w Ax 28 xt wr)) (fun cv _ => 256 - (intOf cv).toNat)
          case atStart => exact ⟨0, by omega, rfl, HX⟩
          case round =>
            clear HX
            obtain ⟨c, hc, rfl, HX⟩ := hrel
            by_cases hc9 : c < 256
            · have d2 : decide ((c : Int) < 256) = true := by simp; omega
              as_aux_lemma =>
                generalize wr = W4 at *
                go_wp2_with fail
                with_reducible refine (copyBytes_any Ax 28 cx xt _ HX.out.x (by decide)).mono ?_
                rintro e w5 ⟨A9, c9, rfl, q1, q2, q3, q4⟩
                obtain ⟨g, rfl, hg, hg2, hcell, hfz⟩ := own_at q3 (by decide)
                obtain ⟨b, hb⟩ : ∃ b, xt[i]? = some b := ⟨_, List.getElem?_eq_getElem (by rw [Hxl.out]; exact hi9)⟩
                have c1 := hcell i (.int .u8 (b.toNat : Int)) (by simp [u8s, hb])
                have f1 := hfz i
                have o9 := own_set q3 i hi9 (.int .u8 (c : Int))
                have hcu : (c : Int) = ((UInt8.ofNat c).toNat : Int) := by rw [ofNat_toNat c hc9]
                have e9 : (u8s xt).set i (.int .u8 (c : Int)) = u8s (xt.set i (UInt8.ofNat c)) := by rw [hcu, u8s_set]
                rw [e9] at o9
                have HY := Lib.hid (own_reads o9)
                have HX := Lib.hid (HX.out.on (q4.setCell (p := ⟨g, i, none⟩) hg (.int .u8 (c : Int))))
                have HC9 := Lib.hid (And.intro q1 q2)
                have hcm : (c : Int) % 256 = (c : Int) := by omega
                clear hg hg2 hcell hfz o9 e9 hcu hb q1 q2 q3 q4
                go_wp2_with fail
                clear c1 f1
                generalize w5.setCell ⟨g, i, none⟩ (.int .u8 (c : Int)) = w6 at *
                with_reducible refine (two_any _).mono ?_
                rintro e w7 ⟨rfl, hr, hb⟩
                have HR := Lib.hid hr
                have HX := Lib.hid (HX.out.on hb)
                have HY := Lib.hid (HY.out.on hb)
                clear hr hb
                go_wp2_with fail
                with_reducible refine (summed_any (some ⟨g, 0, none⟩) 28 c9 (xt.set i (UInt8.ofNat c)) _ HY.out (by decide) HX.out.tab.ctab).mono ?_
                rintro e w8 ⟨A8, c8, rfl, q1, q2, q3, q4⟩
                have HR := Lib.hid (HR.out.on q4)
                have HX := Lib.hid (HX.out.on q4)
                have HQ := Lib.hid (own_reads q3)
                clear q3 q4
                go_wp2_with fail
                with_reducible refine (batchReads_walk (some ⟨w6.heap.size, 0, none⟩) 2 2 twoC A8 32 c8 (xt.set i (UInt8.ofNat c) ++ sumB (crcS (xt.set i (UInt8.ofNat c)))) _ HR.out (by decide) (by decide) twoC_ok HQ.out q1 q2 HX.out.tab).mono ?_
                rintro e w9 ⟨rfl, hb⟩
                have HX := Lib.hid (HX.out.on hb)
                clear hb q1 q2 HQ HR HY
                go_wp2
                go_roundw
                case rel => exact ⟨c + 1, by omega, by go_num, HX⟩
                case measure => simp [intOf]; omega
            · have d2 : decide ((c : Int) < 256) = false := by simp; omega
              go_wp2
              go_roundw
              case rel => exact ⟨i + 1, by omega, by go_num, HX⟩
              case measure => simp [intOf]; omega
        · have d1 : decide ((i : Int) < 28) = false := by simp; omega
          generalize wr = W5 at *
          have hmk := mk33
          clear hi hi9
          go_wp2
          generalize hW : (W5.alloc (.cells #[.int .u8 77, .int .u8 83, .int .u8 1, .int .u8 255, .int .u8 255, .int .u8 255, .int .u8 255, .int .u8 7, .int .u8 255, .int .u8 255, .int .u8 255, .int .u8 255, .int .u8 255, .int .u8 255, .int .u8 255, .int .u8 255, .int .u8 255, .int .u8 1, .int .u8 128, .int .u8 128, .int .u8 64] 5)).alloc (.cells (cos (manyC 0)).toArray 45) = W6
          have HM := Lib.hid (show Blk W6 (W5.heap.size + 1) 45 (cos (manyC 0)).toArray by
            have := Blk.new (W5.alloc (.cells #[.int .u8 77, .int .u8 83, .int .u8 1, .int .u8 255, .int .u8 255, .int .u8 255, .int .u8 255, .int .u8 7, .int .u8 255, .int .u8 255, .int .u8 255, .int .u8 255, .int .u8 255, .int .u8 255, .int .u8 255, .int .u8 255, .int .u8 255, .int .u8 1, .int .u8 128, .int .u8 128, .int .u8 64] 5)) 45 (cos (manyC 0)).toArray
            rw [hW] at this
            simpa using this)
          have HG := Lib.hid (show Blk W6 W5.heap.size 5 (u8s bigN).toArray by
            have := (Blk.new W5 5 #[.int .u8 77, .int .u8 83, .int .u8 1, .int .u8 255, .int .u8 255, .int .u8 255, .int .u8 255, .int .u8 7, .int .u8 255, .int .u8 255, .int .u8 255, .int .u8 255, .int .u8 255, .int .u8 255, .int .u8 255, .int .u8 255, .int .u8 255, .int .u8 1, .int .u8 128, .int .u8 128, .int .u8 64]).alloc (.cells (cos (manyC 0)).toArray 45)
            rw [hW] at this
            exact this)
          have hb56 : Below W5.heap.size W5 W6 := by rw [← hW]; exact bal (bal (Below.refl _ _) _) _
          have HBs := Lib.hid HX.out.below.size
          have HXb := Lib.hid (HX.out.x.below hb56)
          have HTb := Lib.hid (HX.out.tab.keep hb56)
          have HX6 := Lib.hid (HX.out.on hb56)
          have HZ := Lib.hid manyC_at
          clear hb56
          obtain ⟨gb, hgb⟩ : ∃ gb, gb = W5.heap.size := ⟨_, rfl⟩
          obtain ⟨gm, hgm⟩ : ∃ gm, gm = W5.heap.size + 1 := ⟨_, rfl⟩
          rw [← hgm] at HM ⊢
          rw [← hgb] at HG HXb HTb ⊢
          have hbm : gb ≠ gm := by omega
          have HO := Lib.hid (show LoB w Ax 28 xt gb gm 0 W6 from ⟨HX6.out.below, HXb.out, HG.out, HM.out, HTb.out, by omega, by rw [hgb]; exact HBs.out⟩)
          clear hmk hW hgb hgm HX HX6 HXb HTb HBs HM HG hbm
          go_loopw [13] (fun iv wr => ∃ j : Nat, j ≤ 33 ∧ iv = .int .i64 (j : Int) ∧ Hid (LoB w Ax 28 xt gb gm j wr)) (fun iv _ => 33 - (intOf iv).toNat)
          case atStart => exact ⟨0, by omega, rfl, HO⟩
          case round =>
            clear HO
            obtain ⟨j, hj, rfl, HO⟩ := hrel
            by_cases hj9 : j < 33
            · have d1 : decide ((j : Int) < 33) = true := by simp; omega
              generalize wr = W7 at *
              have hji : (j : Int) < 33 := by omega
              have c0 := HO.out.many.cell (j * 7 + 2)
              have f0 := HO.out.many.frozen (j * 7 + 2)
              have hs0 : (cos (manyC j)).toArray[j * 7 + 2]? = some (.int .i64 0) := HZ.out j hj9
              rw [hs0] at c0
              clear hs0
              go_wp2
              clear c0 f0
              have HO := Lib.hid (HO.out.set hj9)
              generalize W7.setCell ⟨gm, j * 7 + 2, none⟩ (.int .i64 1) = W8 at *
              go_roundw
              case rel => exact ⟨j + 1, by omega, by go_num, HO⟩
              case measure => simp [intOf]; omega
            · have d1 : decide ((j : Int) < 33) = false := by simp; omega
              generalize wr = W7 at *
              obtain rfl : j = 33 := by omega
              have H := Lib.hid HO.out.last
              obtain ⟨go, hgo⟩ : ∃ go, go = W7.heap.size := ⟨_, rfl⟩
              rw [← hgo] at H
              clear HO
              go_wp2
              rw [← hgo]
              generalize W7.alloc (.cells #[.int .i64 0, .string ⟨#[]⟩, .int .i64 6, .bool false, .bool false, .int .i64 0, .string ⟨#[]⟩] 45) = W9 at *
              clear hgo
              have hS : Below W9.heap.size W9 W9.drew := (Below.refl _ _).drew
              as_aux_lemma =>
                refine wp_region_plb (fun w' => Below W9.heap.size W9 w') (.pure 0 (.eff 1 (.pure 2 (.pure 3 (.pure 5 (.eff 4 (.eff 6 (.eff 7 (.pure 8 (.pure 9 (.pure 11 (.pure 12 (.eff 10 (.eff 13 (.eff 14 (.pure 15 (.pure 16 (.pure 18 (.pure 19 (.both 17 20 (.eff 21 (.eff 22 (.eff 23 (.pure 24 (.pure 25 (.pure 27 (.pure 28 (.both 26 29 (.eff 30 (.eff 31 (.eff 32 (.pure 33 (.pure 34 (.pure 35 (.pure 36 (.pure 37 (.eff 38 (.pure 39 (.pure 40 (.pure 41 (.pure 42 (.pure 43 (.pure 44 (.eff 45 (.pure 46 (.pure 47 (.pure 48 (.pure 49 (.eff 50 (.pure 51 (.pure 52 (.pure 53 (.pure 54 (.pure 55 (.eff 56 (.pure 57 (.pure 58 (.pure 59 (.eff 60 (.pure 61 (.pure 62 (.pure 63 (.eff 64 (.pure 65 (.pure 66 (.pure 67 (.pure 68 (.eff 69 (.pure 70 (.pure 71 .done)))))))))))))))))))))))))))))))))))))))))))))))))))))))))))))))))))))) (by kernel_rfl) (by kernel_rfl) (by kernel_rfl) (fun d _ _ _ _ h => by cases d <;> exact h) ?_
                refine plb_pure (v := ?_) rfl rfl (by simp [Region.wanted, yielded]) hS ?_ ?_
                rotate_left
                · intro w hw; go_simp; try with_reducible rfl
                try simp only [Act.put, List.setIfInBounds_toArray, List.set_cons_succ, List.set_cons_zero]
                refine plb_eff1 rfl (by simp [Region.wanted, yielded]) fun K hK => ?_
                go_simp
                with_reducible refine (bworks_yes _ (H.out.on hS).x.tab).mono ?_
                rintro e w2 ⟨rfl, hb⟩
                have HS := Lib.hid (bon hS hb)
                clear hb
                refine held_go hK (by exact HS.out) fun hS => ?_
                clear hK K
                try simp only [Act.put, List.setIfInBounds_toArray, List.set_cons_succ, List.set_cons_zero]
                clear HS
                refine plb_pure (v := ?_) rfl rfl (by simp [Region.wanted, yielded]) hS ?_ ?_
                rotate_left
                · intro w hw; go_simp; try with_reducible rfl
                try simp only [Act.put, List.setIfInBounds_toArray, List.set_cons_succ, List.set_cons_zero]
                refine plb_pure (v := ?_) rfl rfl (by simp [Region.wanted, yielded]) hS ?_ ?_
                rotate_left
                · intro w hw; go_simp; try with_reducible rfl
                try simp only [Act.put, List.setIfInBounds_toArray, List.set_cons_succ, List.set_cons_zero]
                refine plb_pure (v := ?_) rfl rfl (by simp [Region.wanted, yielded]) hS ?_ ?_
                rotate_left
                · intro w hw; go_simp; try with_reducible rfl
                try simp only [Act.put, List.setIfInBounds_toArray, List.set_cons_succ, List.set_cons_zero]
                refine plb_eff1 rfl (by simp [Region.wanted, yielded]) fun K hK => ?_
                go_simp
                with_reducible refine (two_ex _).mono ?_
                rintro e w2 ⟨gt, rfl, hr, hb⟩
                have HS := Lib.hid (bon hS hb)
                have HR := Lib.hid hr
                clear hr hb
                refine held_go hK (by exact HS.out) fun hS => ?_
                clear hK K
                try simp only [Act.put, List.setIfInBounds_toArray, List.set_cons_succ, List.set_cons_zero]
                clear HS
                refine plb_eff1 rfl (by simp [Region.wanted, yielded]) fun K hK => ?_
                go_simp
                with_reducible refine (summed_any (some ⟨gb, 0, none⟩) 21 21 (bigN) _ ((H.out.on hS).bigR) (by decide) (H.out.on hS).x.tab.ctab).mono ?_
                rintro e w2 ⟨A8, c8, rfl, q1, q2, q3, q4⟩
                have HS := Lib.hid (bon hS q4)
                have HR := Lib.hid (HR.out.on q4)
                have HQ := Lib.hid (own_reads q3)
                have HC := Lib.hid (And.intro q1 q2)
                clear q1 q2 q3 q4
                refine held_go hK (by exact HS.out) fun hS => ?_
                clear hK K
                try simp only [Act.put, List.setIfInBounds_toArray, List.set_cons_succ, List.set_cons_zero]
                clear HS
                refine plb_eff1 rfl (by simp [Region.wanted, yielded]) fun K hK => ?_
                go_simp
                with_reducible refine (batchReads_walk (some ⟨gt, 0, none⟩) 2 2 (twoC) A8 25 c8 (bigN ++ sumB (crcS bigN)) _ (HR.out) (by decide) (by decide) (twoC_ok) (HQ.out) (HC.out.1) (HC.out.2) (H.out.on hS).x.tab).mono ?_
                rintro e w3 ⟨rfl, hb⟩
                have HS := Lib.hid (bon hS hb)
                clear hb
                refine held_go hK (by exact HS.out) fun hS => ?_
                clear hK K
                try simp only [Act.put, List.setIfInBounds_toArray, List.set_cons_succ, List.set_cons_zero]
                clear HS
                clear HR HQ HC
                refine plb_pure (v := ?_) rfl rfl (by simp [Region.wanted, yielded]) hS ?_ ?_
                rotate_left
                · intro w hw; go_simp; try with_reducible rfl
                try simp only [Act.put, List.setIfInBounds_toArray, List.set_cons_succ, List.set_cons_zero]
                refine plb_pure (v := ?_) rfl rfl (by simp [Region.wanted, yielded]) hS ?_ ?_
                rotate_left
                · intro w hw; go_simp; try with_reducible rfl
                try simp only [Act.put, List.setIfInBounds_toArray, List.set_cons_succ, List.set_cons_zero]
                refine plb_pure (v := ?_) rfl rfl (by simp [Region.wanted, yielded]) hS ?_ ?_
                rotate_left
                · intro w hw; go_simp; try with_reducible rfl
                try simp only [Act.put, List.setIfInBounds_toArray, List.set_cons_succ, List.set_cons_zero]
                refine plb_pure (v := ?_) rfl rfl (by simp [Region.wanted, yielded]) hS ?_ ?_
                rotate_left
                · intro w hw; go_simp; try with_reducible rfl
                try simp only [Act.put, List.setIfInBounds_toArray, List.set_cons_succ, List.set_cons_zero]
                refine plb_eff1 rfl (by simp [Region.wanted, yielded]) fun K hK => ?_
                go_simp
                with_reducible refine (two_ex _).mono ?_
                rintro e w2 ⟨gt, rfl, hr, hb⟩
                have HS := Lib.hid (bon hS hb)
                have HR := Lib.hid hr
                clear hr hb
                refine held_go hK (by exact HS.out) fun hS => ?_
                clear hK K
                try simp only [Act.put, List.setIfInBounds_toArray, List.set_cons_succ, List.set_cons_zero]
                clear HS
                refine plb_eff1 rfl (by simp [Region.wanted, yielded]) fun K hK => ?_
                go_simp
                with_reducible refine (summed_any (some ⟨gb, 0, none⟩) 17 21 (bigN.take 17) _ ((H.out.on hS).bigT 17 (by decide)) (by decide) (H.out.on hS).x.tab.ctab).mono ?_
                rintro e w2 ⟨A8, c8, rfl, q1, q2, q3, q4⟩
                have HS := Lib.hid (bon hS q4)
                have HR := Lib.hid (HR.out.on q4)
                have HQ := Lib.hid (own_reads q3)
                have HC := Lib.hid (And.intro q1 q2)
                clear q1 q2 q3 q4
                refine held_go hK (by exact HS.out) fun hS => ?_
                clear hK K
                try simp only [Act.put, List.setIfInBounds_toArray, List.set_cons_succ, List.set_cons_zero]
                clear HS
                refine plb_eff1 rfl (by simp [Region.wanted, yielded]) fun K hK => ?_
                go_simp
                with_reducible refine (batchReads_walk (some ⟨gt, 0, none⟩) 2 2 (twoC) A8 21 c8 (bigN.take 17 ++ sumB (crcS (bigN.take 17))) _ (HR.out) (by decide) (by decide) (twoC_ok) (HQ.out) (HC.out.1) (HC.out.2) (H.out.on hS).x.tab).mono ?_
                rintro e w3 ⟨rfl, hb⟩
                have HS := Lib.hid (bon hS hb)
                clear hb
                refine held_go hK (by exact HS.out) fun hS => ?_
                clear hK K
                try simp only [Act.put, List.setIfInBounds_toArray, List.set_cons_succ, List.set_cons_zero]
                clear HS
                clear HR HQ HC
                refine plb_pure (v := ?_) rfl rfl (by simp [Region.wanted, yielded]) hS ?_ ?_
                rotate_left
                · intro w hw; go_simp; try with_reducible rfl
                try simp only [Act.put, List.setIfInBounds_toArray, List.set_cons_succ, List.set_cons_zero]
                refine plb_pure (v := ?_) rfl rfl (by simp [Region.wanted, yielded]) hS ?_ ?_
                rotate_left
                · intro w hw; go_simp; try with_reducible rfl
                try simp only [Act.put, List.setIfInBounds_toArray, List.set_cons_succ, List.set_cons_zero]
                refine plb_pure (v := ?_) rfl rfl (by simp [Region.wanted, yielded]) hS ?_ ?_
                rotate_left
                · intro w hw; go_simp; try with_reducible rfl
                try simp only [Act.put, List.setIfInBounds_toArray, List.set_cons_succ, List.set_cons_zero]
                refine plb_pure (v := ?_) rfl rfl (by simp [Region.wanted, yielded]) hS ?_ ?_
                rotate_left
                · intro w hw; go_simp; try with_reducible rfl
                try simp only [Act.put, List.setIfInBounds_toArray, List.set_cons_succ, List.set_cons_zero]
                apply plb_join
                case h1 =>
                  intro hΦ
                  refine plb_eff1 rfl (by simp [Region.wanted, yielded]) fun K hK => ?_
                  go_simp
                  with_reducible refine (two_ex _).mono ?_
                  rintro e w2 ⟨gt, rfl, hr, hb⟩
                  have HS := Lib.hid (bon hS hb)
                  have HR := Lib.hid hr
                  clear hr hb
                  refine held_go hK (by exact HS.out) fun hS => ?_
                  clear hK K
                  try simp only [Act.put, List.setIfInBounds_toArray, List.set_cons_succ, List.set_cons_zero]
                  clear HS
                  refine plb_eff1 rfl (by simp [Region.wanted, yielded]) fun K hK => ?_
                  go_simp
                  have HL := Lib.hid (show Reads (w2.alloc (.cells #[.int .u8 5, .int .u8 129, .int .u8 128, .int .u8 64] 5)) (w2.alloc (.cells #[.int .u8 5, .int .u8 129, .int .u8 128, .int .u8 64] 5)).heap.size 1 (some ⟨w2.heap.size, 0, none⟩) 4 (u8s [5, 129, 128, 64]) from reads_lit _ _ _ _ _ _ rfl rfl rfl)
                  have HS := Lib.hid (bal hS (.cells #[.int .u8 5, .int .u8 129, .int .u8 128, .int .u8 64] 5))
                  refine held_go hK (by exact HS.out) fun hS => ?_
                  clear hK K
                  try simp only [Act.put, List.setIfInBounds_toArray, List.set_cons_succ, List.set_cons_zero]
                  clear HS
                  have HR2 := Lib.hid (HR.out.al (.cells #[.int .u8 5, .int .u8 129, .int .u8 128, .int .u8 64] 5))
                  clear HR
                  obtain ⟨gl, hgl⟩ : ∃ gl, gl = w2.heap.size := ⟨_, rfl⟩
                  rw [← hgl] at HL ⊢
                  generalize w2.alloc (.cells #[.int .u8 5, .int .u8 129, .int .u8 128, .int .u8 64] 5) = w4 at *
                  clear hgl
                  have HA := Lib.hid (And.intro HR2.out (And.intro HL.out hS))
                  clear HR2 HL hS
                  revert HA
                  revert w4
                  revert gl
                  revert gt
                  exact hΦ.out
                case h2 =>
                  intro hΦ
                  refine plb_eff1 rfl (by simp [Region.wanted, yielded]) fun K hK => ?_
                  go_simp
                  have HL := Lib.hid (show Reads (w3.alloc (.cells #[.int .u8 5, .int .u8 129, .int .u8 128, .int .u8 64] 5)) (w3.alloc (.cells #[.int .u8 5, .int .u8 129, .int .u8 128, .int .u8 64] 5)).heap.size 1 (some ⟨w3.heap.size, 0, none⟩) 4 (u8s [5, 129, 128, 64]) from reads_lit _ _ _ _ _ _ rfl rfl rfl)
                  have HS := Lib.hid (bal hS (.cells #[.int .u8 5, .int .u8 129, .int .u8 128, .int .u8 64] 5))
                  refine held_go hK (by exact HS.out) fun hS => ?_
                  clear hK K
                  try simp only [Act.put, List.setIfInBounds_toArray, List.set_cons_succ, List.set_cons_zero]
                  clear HS
                  obtain ⟨gl, hgl⟩ : ∃ gl, gl = w3.heap.size := ⟨_, rfl⟩
                  rw [← hgl] at HL ⊢
                  generalize w3.alloc (.cells #[.int .u8 5, .int .u8 129, .int .u8 128, .int .u8 64] 5) = w4 at *
                  clear hgl
                  refine plb_eff1 rfl (by simp [Region.wanted, yielded]) fun K hK => ?_
                  go_simp
                  with_reducible refine (two_ex _).mono ?_
                  rintro e w2 ⟨gt, rfl, hr, hb⟩
                  have HS := Lib.hid (bon hS hb)
                  have HR := Lib.hid hr
                  have HL2 := Lib.hid (HL.out.on hb)
                  clear hr hb HL
                  refine held_go hK (by exact HS.out) fun hS => ?_
                  clear hK K
                  try simp only [Act.put, List.setIfInBounds_toArray, List.set_cons_succ, List.set_cons_zero]
                  clear HS
                  have HA := Lib.hid (And.intro HR.out (And.intro HL2.out hS))
                  clear HR HL2 hS
                  revert HA
                  revert w2
                  revert gt
                  revert gl
                  exact fun gl gt w2 HA => hΦ.out gt gl w2 HA
                intro gt gl w4 HA
                have HR := Lib.hid HA.out.1
                have HL := Lib.hid HA.out.2.1
                have hS := HA.out.2.2
                clear HA
                as_aux_lemma =>
                  refine plb_eff1 rfl (by simp [Region.wanted, yielded]) fun K hK => ?_
                  refine wp_append_app _ (.tmp 160) (.tmp 161) 35 rfl _ 5 i0 (.int .u8 0) 1 1 Tryz.underlying35 hi0 hl0 hi1 hl2 rfl (by decide) (some ⟨gb, 0, none⟩) 8 8 (u8s (bigN.take 8)) (by exact rfl) (.inr ⟨rfl, (H.out.on hS).bigT 8 (by decide)⟩) (some ⟨gl, 0, none⟩) 4 4 (u8s [5, 129, 128, 64]) (by exact rfl) (HL.out) (u8s_one _) (by decide) (by decide) (by decide) (Nat.le_refl _) ?_
                  intro A8 c8 w8 r1 r2 r3 r4 r5
                  rw [← u8s_append] at r1
                  have HA := Lib.hid (show Reads _ _ 1 A8 12 _ from own_reads r1)
                  have HC := Lib.hid (And.intro r4 r5)
                  have HR := Lib.hid (HR.out.on r2)
                  have HS := Lib.hid (bon hS r2)
                  clear r1 r2 r3 r4 r5
                  refine held_go hK (by exact HS.out) fun hS => ?_
                  clear hK K
                  try simp only [Act.put, List.setIfInBounds_toArray, List.set_cons_succ, List.set_cons_zero]
                  clear HS HL
                  refine plb_eff1 rfl (by simp [Region.wanted, yielded]) fun K hK => ?_
                  go_simp
                  with_reducible refine (summed_any A8 12 c8 (bigN.take 8 ++ [5, 129, 128, 64]) _ (HA.out) (by decide) (H.out.on hS).x.tab.ctab).mono ?_
                  rintro e w2 ⟨A8, c8, rfl, q1, q2, q3, q4⟩
                  have HS := Lib.hid (bon hS q4)
                  have HR := Lib.hid (HR.out.on q4)
                  have HQ := Lib.hid (own_reads q3)
                  have HC := Lib.hid (And.intro q1 q2)
                  clear q1 q2 q3 q4
                  refine held_go hK (by exact HS.out) fun hS => ?_
                  clear hK K
                  try simp only [Act.put, List.setIfInBounds_toArray, List.set_cons_succ, List.set_cons_zero]
                  clear HS
                  refine plb_eff1 rfl (by simp [Region.wanted, yielded]) fun K hK => ?_
                  go_simp
                  with_reducible refine (batchReads_walk (some ⟨gt, 0, none⟩) 2 2 (twoC) A8 16 c8 ((bigN.take 8 ++ [5, 129, 128, 64]) ++ sumB (crcS (bigN.take 8 ++ [5, 129, 128, 64]))) _ (HR.out) (by decide) (by decide) (twoC_ok) (HQ.out) (HC.out.1) (HC.out.2) (H.out.on hS).x.tab).mono ?_
                  rintro e w3 ⟨rfl, hb⟩
                  have HS := Lib.hid (bon hS hb)
                  clear hb
                  refine held_go hK (by exact HS.out) fun hS => ?_
                  clear hK K
                  try simp only [Act.put, List.setIfInBounds_toArray, List.set_cons_succ, List.set_cons_zero]
                  clear HS
                  clear HR HQ HC HA
                  refine plb_pure (v := ?_) rfl rfl (by simp [Region.wanted, yielded]) hS ?_ ?_
                  rotate_left
                  · intro w hw; go_simp; try with_reducible rfl
                  try simp only [Act.put, List.setIfInBounds_toArray, List.set_cons_succ, List.set_cons_zero]
                  refine plb_pure (v := ?_) rfl rfl (by simp [Region.wanted, yielded]) hS ?_ ?_
                  rotate_left
                  · intro w hw; go_simp; try with_reducible rfl
                  try simp only [Act.put, List.setIfInBounds_toArray, List.set_cons_succ, List.set_cons_zero]
                  refine plb_pure (v := ?_) rfl rfl (by simp [Region.wanted, yielded]) hS ?_ ?_
                  rotate_left
                  · intro w hw; go_simp; try with_reducible rfl
                  try simp only [Act.put, List.setIfInBounds_toArray, List.set_cons_succ, List.set_cons_zero]
                  refine plb_pure (v := ?_) rfl rfl (by simp [Region.wanted, yielded]) hS ?_ ?_
                  rotate_left
                  · intro w hw; go_simp; try with_reducible rfl
                  try simp only [Act.put, List.setIfInBounds_toArray, List.set_cons_succ, List.set_cons_zero]
                  apply plb_join
                  case h1 =>
                    intro hΦ
                    refine plb_eff1 rfl (by simp [Region.wanted, yielded]) fun K hK => ?_
                    go_simp
                    with_reducible refine (two_ex _).mono ?_
                    rintro e w2 ⟨gt, rfl, hr, hb⟩
                    have HS := Lib.hid (bon hS hb)
                    have HR := Lib.hid hr
                    clear hr hb
                    refine held_go hK (by exact HS.out) fun hS => ?_
                    clear hK K
                    try simp only [Act.put, List.setIfInBounds_toArray, List.set_cons_succ, List.set_cons_zero]
                    clear HS
                    refine plb_eff1 rfl (by simp [Region.wanted, yielded]) fun K hK => ?_
                    go_simp
                    have HL := Lib.hid (show Reads (w2.alloc (.cells #[.int .u8 5, .int .u8 128, .int .u8 128, .int .u8 64] 5)) (w2.alloc (.cells #[.int .u8 5, .int .u8 128, .int .u8 128, .int .u8 64] 5)).heap.size 1 (some ⟨w2.heap.size, 0, none⟩) 4 (u8s [5, 128, 128, 64]) from reads_lit _ _ _ _ _ _ rfl rfl rfl)
                    have HS := Lib.hid (bal hS (.cells #[.int .u8 5, .int .u8 128, .int .u8 128, .int .u8 64] 5))
                    refine held_go hK (by exact HS.out) fun hS => ?_
                    clear hK K
                    try simp only [Act.put, List.setIfInBounds_toArray, List.set_cons_succ, List.set_cons_zero]
                    clear HS
                    have HR2 := Lib.hid (HR.out.al (.cells #[.int .u8 5, .int .u8 128, .int .u8 128, .int .u8 64] 5))
                    clear HR
                    obtain ⟨gl, hgl⟩ : ∃ gl, gl = w2.heap.size := ⟨_, rfl⟩
                    rw [← hgl] at HL ⊢
                    generalize w2.alloc (.cells #[.int .u8 5, .int .u8 128, .int .u8 128, .int .u8 64] 5) = w4 at *
                    clear hgl
                    have HA := Lib.hid (And.intro HR2.out (And.intro HL.out hS))
                    clear HR2 HL hS
                    revert HA
                    revert w4
                    revert gl
                    revert gt
                    exact hΦ.out
                  case h2 =>
                    intro hΦ
                    refine plb_eff1 rfl (by simp [Region.wanted, yielded]) fun K hK => ?_
                    go_simp
                    have HL := Lib.hid (show Reads (w3.alloc (.cells #[.int .u8 5, .int .u8 128, .int .u8 128, .int .u8 64] 5)) (w3.alloc (.cells #[.int .u8 5, .int .u8 128, .int .u8 128, .int .u8 64] 5)).heap.size 1 (some ⟨w3.heap.size, 0, none⟩) 4 (u8s [5, 128, 128, 64]) from reads_lit _ _ _ _ _ _ rfl rfl rfl)
                    have HS := Lib.hid (bal hS (.cells #[.int .u8 5, .int .u8 128, .int .u8 128, .int .u8 64] 5))
                    refine held_go hK (by exact HS.out) fun hS => ?_
                    clear hK K
                    try simp only [Act.put, List.setIfInBounds_toArray, List.set_cons_succ, List.set_cons_zero]
                    clear HS
                    obtain ⟨gl, hgl⟩ : ∃ gl, gl = w3.heap.size := ⟨_, rfl⟩
                    rw [← hgl] at HL ⊢
                    generalize w3.alloc (.cells #[.int .u8 5, .int .u8 128, .int .u8 128, .int .u8 64] 5) = w4 at *
                    clear hgl
                    refine plb_eff1 rfl (by simp [Region.wanted, yielded]) fun K hK => ?_
                    go_simp
                    with_reducible refine (two_ex _).mono ?_
                    rintro e w2 ⟨gt, rfl, hr, hb⟩
                    have HS := Lib.hid (bon hS hb)
                    have HR := Lib.hid hr
                    have HL2 := Lib.hid (HL.out.on hb)
                    clear hr hb HL
                    refine held_go hK (by exact HS.out) fun hS => ?_
                    clear hK K
                    try simp only [Act.put, List.setIfInBounds_toArray, List.set_cons_succ, List.set_cons_zero]
                    clear HS
                    have HA := Lib.hid (And.intro HR.out (And.intro HL2.out hS))
                    clear HR HL2 hS
                    revert HA
                    revert w2
                    revert gt
                    revert gl
                    exact fun gl gt w2 HA => hΦ.out gt gl w2 HA
                  intro gt gl w4 HA
                  have HR := Lib.hid HA.out.1
                  have HL := Lib.hid HA.out.2.1
                  have hS := HA.out.2.2
                  clear HA
                  as_aux_lemma =>
                    refine plb_eff1 rfl (by simp [Region.wanted, yielded]) fun K hK => ?_
                    refine wp_append_app _ (.tmp 169) (.tmp 170) 35 rfl _ 5 i0 (.int .u8 0) 1 1 Tryz.underlying35 hi0 hl0 hi1 hl2 rfl (by decide) (some ⟨gb, 0, none⟩) 8 8 (u8s (bigN.take 8)) (by exact rfl) (.inr ⟨rfl, (H.out.on hS).bigT 8 (by decide)⟩) (some ⟨gl, 0, none⟩) 4 4 (u8s [5, 128, 128, 64]) (by exact rfl) (HL.out) (u8s_one _) (by decide) (by decide) (by decide) (Nat.le_refl _) ?_
                    intro A8 c8 w8 r1 r2 r3 r4 r5
                    rw [← u8s_append] at r1
                    have HA := Lib.hid (show Reads _ _ 1 A8 12 _ from own_reads r1)
                    have HC := Lib.hid (And.intro r4 r5)
                    have HR := Lib.hid (HR.out.on r2)
                    have HS := Lib.hid (bon hS r2)
                    clear r1 r2 r3 r4 r5
                    refine held_go hK (by exact HS.out) fun hS => ?_
                    clear hK K
                    try simp only [Act.put, List.setIfInBounds_toArray, List.set_cons_succ, List.set_cons_zero]
                    clear HS HL
                    refine plb_eff1 rfl (by simp [Region.wanted, yielded]) fun K hK => ?_
                    go_simp
                    with_reducible refine (summed_any A8 12 c8 (bigN.take 8 ++ [5, 128, 128, 64]) _ (HA.out) (by decide) (H.out.on hS).x.tab.ctab).mono ?_
                    rintro e w2 ⟨A8, c8, rfl, q1, q2, q3, q4⟩
                    have HS := Lib.hid (bon hS q4)
                    have HR := Lib.hid (HR.out.on q4)
                    have HQ := Lib.hid (own_reads q3)
                    have HC := Lib.hid (And.intro q1 q2)
                    clear q1 q2 q3 q4
                    refine held_go hK (by exact HS.out) fun hS => ?_
                    clear hK K
                    try simp only [Act.put, List.setIfInBounds_toArray, List.set_cons_succ, List.set_cons_zero]
                    clear HS
                    refine plb_eff1 rfl (by simp [Region.wanted, yielded]) fun K hK => ?_
                    go_simp
                    with_reducible refine (batchReads_walk (some ⟨gt, 0, none⟩) 2 2 (twoC) A8 16 c8 ((bigN.take 8 ++ [5, 128, 128, 64]) ++ sumB (crcS (bigN.take 8 ++ [5, 128, 128, 64]))) _ (HR.out) (by decide) (by decide) (twoC_ok) (HQ.out) (HC.out.1) (HC.out.2) (H.out.on hS).x.tab).mono ?_
                    rintro e w3 ⟨rfl, hb⟩
                    have HS := Lib.hid (bon hS hb)
                    clear hb
                    refine held_go hK (by exact HS.out) fun hS => ?_
                    clear hK K
                    try simp only [Act.put, List.setIfInBounds_toArray, List.set_cons_succ, List.set_cons_zero]
                    clear HS
                    clear HR HQ HC HA
                    refine plb_pure (v := ?_) rfl rfl (by simp [Region.wanted, yielded]) hS ?_ ?_
                    rotate_left
                    · intro w hw; go_simp; try with_reducible rfl
                    try simp only [Act.put, List.setIfInBounds_toArray, List.set_cons_succ, List.set_cons_zero]
                    refine plb_pure (v := ?_) rfl rfl (by simp [Region.wanted, yielded]) hS ?_ ?_
                    rotate_left
                    · intro w hw; go_simp; try with_reducible rfl
                    try simp only [Act.put, List.setIfInBounds_toArray, List.set_cons_succ, List.set_cons_zero]
                    refine plb_pure (v := ?_) rfl rfl (by simp [Region.wanted, yielded]) hS ?_ ?_
                    rotate_left
                    · intro w hw; go_simp; try with_reducible rfl
                    try simp only [Act.put, List.setIfInBounds_toArray, List.set_cons_succ, List.set_cons_zero]
                    refine plb_pure (v := ?_) rfl rfl (by simp [Region.wanted, yielded]) hS ?_ ?_
                    rotate_left
                    · intro w hw; go_simp; try with_reducible rfl
                    try simp only [Act.put, List.setIfInBounds_toArray, List.set_cons_succ, List.set_cons_zero]
                    refine plb_pure (v := ?_) rfl rfl (by simp [Region.wanted, yielded]) hS ?_ ?_
                    rotate_left
                    · intro w hw; go_simp; try with_reducible rfl
                    try simp only [Act.put, List.setIfInBounds_toArray, List.set_cons_succ, List.set_cons_zero]
                    refine plb_eff1 rfl (by simp [Region.wanted, yielded]) fun K hK => ?_
                    go_simp
                    with_reducible refine (batchWrites_walk (some ⟨gm, 0, none⟩) 33 33 (manyC 33) 0 0 none 0 0 [] 0 0 none 0 0 [] _ ((H.out.on hS).manyR) (by decide) (by decide) (manyC_ok _ (manyC_mem 33)) (by decide) (by decide) ItemsAt.nil (by decide) (by decide) itNil (by decide) (by decide) ItemsAt.nil (by decide) (by decide) itNil (H.out.on hS).x.tab).mono ?_
                    rintro e w3 ⟨rfl, hb⟩
                    have HS := Lib.hid (bon hS hb)
                    clear hb
                    refine held_go hK (by exact HS.out) fun hS => ?_
                    clear hK K
                    try simp only [Act.put, List.setIfInBounds_toArray, List.set_cons_succ, List.set_cons_zero]
                    clear HS
                    refine plb_pure (v := ?_) rfl rfl (by simp [Region.wanted, yielded]) hS ?_ ?_
                    rotate_left
                    · intro w hw; go_simp; try with_reducible rfl
                    try simp only [Act.put, List.setIfInBounds_toArray, List.set_cons_succ, List.set_cons_zero]
                    refine plb_pure (v := ?_) rfl rfl (by simp [Region.wanted, yielded]) hS ?_ ?_
                    rotate_left
                    · intro w hw; go_simp; try with_reducible rfl
                    try simp only [Act.put, List.setIfInBounds_toArray, List.set_cons_succ, List.set_cons_zero]
                    refine plb_pure (v := ?_) rfl rfl (by simp [Region.wanted, yielded]) hS ?_ ?_
                    rotate_left
                    · intro w hw; go_simp; try with_reducible rfl
                    try simp only [Act.put, List.setIfInBounds_toArray, List.set_cons_succ, List.set_cons_zero]
                    refine plb_pure (v := ?_) rfl rfl (by simp [Region.wanted, yielded]) hS ?_ ?_
                    rotate_left
                    · intro w hw; go_simp; try with_reducible rfl
                    try simp only [Act.put, List.setIfInBounds_toArray, List.set_cons_succ, List.set_cons_zero]
                    refine plb_pure (v := ?_) rfl rfl (by simp [Region.wanted, yielded]) hS ?_ ?_
                    rotate_left
                    · intro w hw; go_simp; try with_reducible rfl
                    try simp only [Act.put, List.setIfInBounds_toArray, List.set_cons_succ, List.set_cons_zero]
                    refine plb_pure (v := ?_) rfl rfl (by simp [Region.wanted, yielded]) hS ?_ ?_
                    rotate_left
                    · intro w hw; go_simp; try with_reducible rfl
                    try simp only [Act.put, List.setIfInBounds_toArray, List.set_cons_succ, List.set_cons_zero]
                    refine plb_eff1 rfl (by simp [Region.wanted, yielded]) fun K hK => ?_
                    go_simp
                    with_reducible refine (batchWrites_walk (some ⟨gm, 0, none⟩) 32 33 (List.replicate 32 coB) 0 0 none 0 0 [] 0 0 none 0 0 [] _ ((H.out.on hS).many32) (by decide) (by decide) (manyC_ok _ (fun c hc => .inl (List.eq_of_mem_replicate hc))) (by decide) (by decide) ItemsAt.nil (by decide) (by decide) itNil (by decide) (by decide) ItemsAt.nil (by decide) (by decide) itNil (H.out.on hS).x.tab).mono ?_
                    rintro e w3 ⟨rfl, hb⟩
                    have HS := Lib.hid (bon hS hb)
                    clear hb
                    refine held_go hK (by exact HS.out) fun hS => ?_
                    clear hK K
                    try simp only [Act.put, List.setIfInBounds_toArray, List.set_cons_succ, List.set_cons_zero]
                    clear HS
                    refine plb_pure (v := ?_) rfl rfl (by simp [Region.wanted, yielded]) hS ?_ ?_
                    rotate_left
                    · intro w hw; go_simp; try with_reducible rfl
                    try simp only [Act.put, List.setIfInBounds_toArray, List.set_cons_succ, List.set_cons_zero]
                    refine plb_pure (v := ?_) rfl rfl (by simp [Region.wanted, yielded]) hS ?_ ?_
                    rotate_left
                    · intro w hw; go_simp; try with_reducible rfl
                    try simp only [Act.put, List.setIfInBounds_toArray, List.set_cons_succ, List.set_cons_zero]
                    refine plb_pure (v := ?_) rfl rfl (by simp [Region.wanted, yielded]) hS ?_ ?_
                    rotate_left
                    · intro w hw; go_simp; try with_reducible rfl
                    try simp only [Act.put, List.setIfInBounds_toArray, List.set_cons_succ, List.set_cons_zero]
                    refine plb_pure (v := ?_) rfl rfl (by simp [Region.wanted, yielded]) hS ?_ ?_
                    rotate_left
                    · intro w hw; go_simp; try with_reducible rfl
                    try simp only [Act.put, List.setIfInBounds_toArray, List.set_cons_succ, List.set_cons_zero]
                    refine plb_eff1 rfl (by simp [Region.wanted, yielded]) fun K hK => ?_
                    go_simp
                    with_reducible refine (batchWrites_walk none 0 0 ([]) 0 0 none 0 0 [] 0 0 none 0 0 [] _ (Reads.none_) (by decide) (by decide) (coNil) (by decide) (by decide) ItemsAt.nil (by decide) (by decide) itNil (by decide) (by decide) ItemsAt.nil (by decide) (by decide) itNil (H.out.on hS).x.tab).mono ?_
                    rintro e w3 ⟨rfl, hb⟩
                    have HS := Lib.hid (bon hS hb)
                    clear hb
                    refine held_go hK (by exact HS.out) fun hS => ?_
                    clear hK K
                    try simp only [Act.put, List.setIfInBounds_toArray, List.set_cons_succ, List.set_cons_zero]
                    clear HS
                    refine plb_pure (v := ?_) rfl rfl (by simp [Region.wanted, yielded]) hS ?_ ?_
                    rotate_left
                    · intro w hw; go_simp; try with_reducible rfl
                    try simp only [Act.put, List.setIfInBounds_toArray, List.set_cons_succ, List.set_cons_zero]
                    refine plb_pure (v := ?_) rfl rfl (by simp [Region.wanted, yielded]) hS ?_ ?_
                    rotate_left
                    · intro w hw; go_simp; try with_reducible rfl
                    try simp only [Act.put, List.setIfInBounds_toArray, List.set_cons_succ, List.set_cons_zero]
                    refine plb_pure (v := ?_) rfl rfl (by simp [Region.wanted, yielded]) hS ?_ ?_
                    rotate_left
                    · intro w hw; go_simp; try with_reducible rfl
                    try simp only [Act.put, List.setIfInBounds_toArray, List.set_cons_succ, List.set_cons_zero]
                    refine plb_pure (v := ?_) rfl rfl (by simp [Region.wanted, yielded]) hS ?_ ?_
                    rotate_left
                    · intro w hw; go_simp; try with_reducible rfl
                    try simp only [Act.put, List.setIfInBounds_toArray, List.set_cons_succ, List.set_cons_zero]
                    refine plb_pure (v := ?_) rfl rfl (by simp [Region.wanted, yielded]) hS ?_ ?_
                    rotate_left
                    · intro w hw; go_simp; try with_reducible rfl
                    try simp only [Act.put, List.setIfInBounds_toArray, List.set_cons_succ, List.set_cons_zero]
                    refine plb_eff1 rfl (by simp [Region.wanted, yielded]) fun K hK => ?_
                    go_simp
                    with_reducible refine (batchWrites_walk (some ⟨go, 0, none⟩) 1 1 ([(0, ⟨#[]⟩, 6, false, false, 0, ⟨#[]⟩)]) 0 0 none 0 0 [] 0 0 none 0 0 [] _ ((H.out.on hS).odd) (by decide) (by decide) (oddC_ok) (by decide) (by decide) ItemsAt.nil (by decide) (by decide) itNil (by decide) (by decide) ItemsAt.nil (by decide) (by decide) itNil (H.out.on hS).x.tab).mono ?_
                    rintro e w3 ⟨rfl, hb⟩
                    have HS := Lib.hid (bon hS hb)
                    clear hb
                    refine held_go hK (by exact HS.out) fun hS => ?_
                    clear hK K
                    try simp only [Act.put, List.setIfInBounds_toArray, List.set_cons_succ, List.set_cons_zero]
                    clear HS
                    refine plb_pure (v := ?_) rfl rfl (by simp [Region.wanted, yielded]) hS ?_ ?_
                    rotate_left
                    · intro w hw; go_simp; try with_reducible rfl
                    try simp only [Act.put, List.setIfInBounds_toArray, List.set_cons_succ, List.set_cons_zero]
                    refine plb_pure (v := ?_) rfl rfl (by simp [Region.wanted, yielded]) hS ?_ ?_
                    rotate_left
                    · intro w hw; go_simp; try with_reducible rfl
                    try simp only [Act.put, List.setIfInBounds_toArray, List.set_cons_succ, List.set_cons_zero]
                    refine plb_pure (v := ?_) rfl rfl (by simp [Region.wanted, yielded]) hS ?_ ?_
                    rotate_left
                    · intro w hw; go_simp; try with_reducible rfl
                    try simp only [Act.put, List.setIfInBounds_toArray, List.set_cons_succ, List.set_cons_zero]
                    refine plb_eff1 rfl (by simp [Region.wanted, yielded]) fun K hK => ?_
                    go_simp
                    with_reducible refine (batchReads_walk (some ⟨go, 0, none⟩) 1 1 ([(0, ⟨#[]⟩, 6, false, false, 0, ⟨#[]⟩)]) none 0 0 ([]) _ ((H.out.on hS).odd) (by decide) (by decide) (oddC_ok) (Reads.none_) (Nat.le_refl _) (Nat.zero_le _) (H.out.on hS).x.tab).mono ?_
                    rintro e w3 ⟨rfl, hb⟩
                    have HS := Lib.hid (bon hS hb)
                    clear hb
                    refine held_go hK (by exact HS.out) fun hS => ?_
                    clear hK K
                    try simp only [Act.put, List.setIfInBounds_toArray, List.set_cons_succ, List.set_cons_zero]
                    clear HS
                    refine plb_pure (v := ?_) rfl rfl (by simp [Region.wanted, yielded]) hS ?_ ?_
                    rotate_left
                    · intro w hw; go_simp; try with_reducible rfl
                    try simp only [Act.put, List.setIfInBounds_toArray, List.set_cons_succ, List.set_cons_zero]
                    refine plb_pure (v := ?_) rfl rfl (by simp [Region.wanted, yielded]) hS ?_ ?_
                    rotate_left
                    · intro w hw; go_simp; try with_reducible rfl
                    try simp only [Act.put, List.setIfInBounds_toArray, List.set_cons_succ, List.set_cons_zero]
                    refine plb_pure (v := ?_) rfl rfl (by simp [Region.wanted, yielded]) hS ?_ ?_
                    rotate_left
                    · intro w hw; go_simp; try with_reducible rfl
                    try simp only [Act.put, List.setIfInBounds_toArray, List.set_cons_succ, List.set_cons_zero]
                    refine plb_eff1 rfl (by simp [Region.wanted, yielded]) fun K hK => ?_
                    go_simp
                    with_reducible refine (batchReads_walk none 0 0 ([]) Ax 28 cx (xt) _ (Reads.none_) (by decide) (by decide) (coNil) ((H.out.on hS).x.x) (Nat.le_trans (by decide) Hcc.out.1) (Hcc.out.2) (H.out.on hS).x.tab).mono ?_
                    rintro e w3 ⟨rfl, hb⟩
                    have HS := Lib.hid (bon hS hb)
                    clear hb
                    refine held_go hK (by exact HS.out) fun hS => ?_
                    clear hK K
                    try simp only [Act.put, List.setIfInBounds_toArray, List.set_cons_succ, List.set_cons_zero]
                    clear HS
                    refine plb_pure (v := ?_) rfl rfl (by simp [Region.wanted, yielded]) hS ?_ ?_
                    rotate_left
                    · intro w hw; go_simp; try with_reducible rfl
                    try simp only [Act.put, List.setIfInBounds_toArray, List.set_cons_succ, List.set_cons_zero]
                    refine plb_pure (v := ?_) rfl rfl (by simp [Region.wanted, yielded]) hS ?_ ?_
                    rotate_left
                    · intro w hw; go_simp; try with_reducible rfl
                    try simp only [Act.put, List.setIfInBounds_toArray, List.set_cons_succ, List.set_cons_zero]
                    refine plb_pure (v := ?_) rfl rfl (by simp [Region.wanted, yielded]) hS ?_ ?_
                    rotate_left
                    · intro w hw; go_simp; try with_reducible rfl
                    try simp only [Act.put, List.setIfInBounds_toArray, List.set_cons_succ, List.set_cons_zero]
                    refine plb_pure (v := ?_) rfl rfl (by simp [Region.wanted, yielded]) hS ?_ ?_
                    rotate_left
                    · intro w hw; go_simp; try with_reducible rfl
                    try simp only [Act.put, List.setIfInBounds_toArray, List.set_cons_succ, List.set_cons_zero]
                    refine plb_eff1 rfl (by simp [Region.wanted, yielded]) fun K hK => ?_
                    go_simp
                    with_reducible refine (batchReads_walk (some ⟨gm, 0, none⟩) 33 33 (manyC 33) Ax 28 cx (xt) _ ((H.out.on hS).manyR) (by decide) (by decide) (manyC_ok _ (manyC_mem 33)) ((H.out.on hS).x.x) (Nat.le_trans (by decide) Hcc.out.1) (Hcc.out.2) (H.out.on hS).x.tab).mono ?_
                    rintro e w3 ⟨rfl, hb⟩
                    have HS := Lib.hid (bon hS hb)
                    clear hb
                    refine held_go hK (by exact HS.out) fun hS => ?_
                    clear hK K
                    try simp only [Act.put, List.setIfInBounds_toArray, List.set_cons_succ, List.set_cons_zero]
                    clear HS
                    refine plb_pure (v := ?_) rfl rfl (by simp [Region.wanted, yielded]) hS ?_ ?_
                    rotate_left
                    · intro w hw; go_simp; try with_reducible rfl
                    try simp only [Act.put, List.setIfInBounds_toArray, List.set_cons_succ, List.set_cons_zero]
                    refine plb_pure (v := ?_) rfl rfl (by simp [Region.wanted, yielded]) hS ?_ ?_
                    rotate_left
                    · intro w hw; go_simp; try with_reducible rfl
                    try simp only [Act.put, List.setIfInBounds_toArray, List.set_cons_succ, List.set_cons_zero]
                    refine plb_end ?_
                    go_wp2
                    go_ret
                    exact ⟨rfl, (H.out.on hS).x.below⟩
end Go.Proofs.YtjpjalmilfgckaaGreatDoor
