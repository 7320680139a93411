/- The law ColKnown, walked. -/
import Derived.Test.YtfgpbnfobpfacaaGreatDoorPart21
import Derived.Test.YtfgpbnfobpfacaaGreatDoorRepeatLay
import Derived.Test.YtfgpbnfobpfacaaGreatDoorRepeat
import Derived.Test.YtfgpbnfobpfacaaGreatDoorColGetsW
import Derived.Test.YtfgpbnfobpfacaaGreatDoorColPutsW
set_option linter.unusedVariables false
set_option linter.unusedSimpArgs false
namespace Go.Proofs.YtfgpbnfobpfacaaGreatDoor
open Go.RowKit
theorem readsK_blk {w : World} {g : Nat} {t : TypeId} {cs : Array Value} (h : Blk w g t cs) (xs : List UInt8) (hx : cs.toList = u8s xs) : Reads w w.heap.size 1 (some ⟨g, 0, none⟩) xs.length (u8s xs) := by
  refine ⟨by simp, fun _ => ⟨_, rfl, h.lt, fun j u hu => ?_⟩⟩
  have hadd : (⟨g, 0, none⟩ : Addr).add j = ⟨g, j, none⟩ := by unfold Addr.add; split <;> simp_all
  rw [hadd, h.cell]
  rw [← hx] at hu
  simpa using hu
/-- The rows that the statement names. -/
def RowsK (w : World) (G : Nat) : Prop := ∀ i, i < 23 → ∃ A n xs, w.cell? ⟨G, i, none⟩ = some (.slice A n n) ∧ G < w.heap.size ∧ Reads w w.heap.size 1 A n (u8s xs) ∧ n ≤ 10
theorem RowsK.on {w w' : World} {G : Nat} (h : RowsK w G) (hb : Below w.heap.size w w') : RowsK w' G := by
  intro i hi
  obtain ⟨A, n, xs, h1, h2, h3, h4⟩ := h i hi
  exact ⟨A, n, xs, (hb.cell (p := ⟨G, i, none⟩) h2).trans h1, Nat.lt_of_lt_of_le h2 hb.size, h3.on hb, h4⟩
def rowsK : List (List UInt8) := [[0], [1], [2], [3], [7], [8], [128], [128, 0], [1, 0], [1, 1], [1, 1, 97, 0], [2, 1, 97, 1, 97, 0, 1], [1, 2, 195, 169, 0], [1, 1, 195, 0], [3, 2, 1], [3, 4, 4, 4], [3, 1, 0, 0, 0], [254, 255, 255, 255, 15], [255, 255, 255, 255, 15], [128, 128, 128, 128, 16], [255, 255, 255, 255, 255, 255, 255, 255, 255, 1], [129, 8]]
def litK (w : World) (l : List (List UInt8)) : World := l.foldl (fun w x => w.alloc (.cells (u8s x).toArray 5)) w
theorem litK_spec : ∀ (l : List (List UInt8)) (w : World), (litK w l).heap.size = w.heap.size + l.length ∧ Below w.heap.size w (litK w l) ∧ ∀ i x, l[i]? = some x → Blk (litK w l) (w.heap.size + i) 5 (u8s x).toArray := by
  intro l
  induction l with
  | nil => intro w; exact ⟨rfl, Below.refl _ _, fun i x h => by simp at h⟩
  | cons y l ih =>
    intro w
    obtain ⟨h1, h2, h3⟩ := ih (w.alloc (.cells (u8s y).toArray 5))
    have hs : (w.alloc (.cells (u8s y).toArray 5)).heap.size = w.heap.size + 1 := by simp
    refine ⟨by rw [litK, List.foldl_cons]; show (litK _ l).heap.size = _; rw [h1, hs, List.length_cons]; omega, ((Below.refl _ _).alloc (Nat.le_refl _) _).trans (h2.mono (by omega)), fun i x h => ?_⟩
    cases i with
    | zero =>
      simp only [List.getElem?_cons_zero, Option.some.injEq] at h
      subst h
      exact (Blk.new w _ _).on h2
    | succ i =>
      simp only [List.getElem?_cons_succ] at h
      have := h3 i x h
      rw [hs, Nat.add_assoc, Nat.add_comm 1 i] at this
      exact this
def cellsK (b : Nat) : List Value := .slice none 0 0 :: (List.range 22).map fun i => .slice (some ⟨b + i, 0, none⟩) ((rowsK[i]?).getD []).length ((rowsK[i]?).getD []).length
theorem rowsK_new (w : World) (cs : Array Value) (hcs : cs.toList = cellsK w.heap.size) :
    RowsK ((litK w rowsK).alloc (.cells cs 22)) (w.heap.size + 22) ∧ Below w.heap.size w ((litK w rowsK).alloc (.cells cs 22)) := by
  obtain ⟨h1, h2, h3⟩ := litK_spec rowsK w
  have hs : (litK w rowsK).heap.size = w.heap.size + 22 := h1
  have hB : Below w.heap.size w ((litK w rowsK).alloc (.cells cs 22)) := h2.alloc (by omega) _
  have hG : Blk ((litK w rowsK).alloc (.cells cs 22)) (w.heap.size + 22) 22 cs := by
    rw [← hs]
    exact Blk.new _ _ _
  have hlt := hG.lt
  refine ⟨fun i hi => ?_, hB⟩
  have hc : ∀ v, (cellsK w.heap.size)[i]? = some v → ((litK w rowsK).alloc (.cells cs 22)).cell? ⟨w.heap.size + 22, i, none⟩ = some v := fun v h => by
    rw [hG.cell, ← Array.getElem?_toList, hcs]
    exact h
  cases i with
  | zero => exact ⟨none, 0, [], hc _ rfl, hlt, Reads.none_, by decide⟩
  | succ i =>
    have hi2 : i < 22 := by omega
    have hx : rowsK[i]? = some ((rowsK[i]?).getD []) := by
      rw [List.getElem?_eq_getElem (show i < rowsK.length from hi2)]
      rfl
    have hle : ∀ k : Fin 22, ((rowsK[k.val]?).getD []).length ≤ 10 := by decide +kernel
    exact ⟨_, _, _, hc _ (by simp [cellsK, List.getElem?_range hi2]), hlt, readsK_blk ((h3 i _ hx).alloc _) _ rfl, hle ⟨i, hi2⟩⟩
theorem bx_al {base : Nat} {a w : World} (h0 : base ≤ a.heap.size) (h : Below base a w) (o : Obj) : Below base a (w.alloc o) := h.alloc (Nat.le_trans h0 h.size) o
theorem bx_on {base : Nat} {a w w' : World} (h0 : base ≤ a.heap.size) (h : Below base a w) (k : Below w.heap.size w w') : Below base a w' := h.trans (k.mono (Nat.le_trans h0 h.size))
def longK : ByteArray := ⟨(Lib.repeatL [97] 1024).toArray⟩
theorem longK_put (k : Nat) (h : k = 4 ∨ k = 5) : putE (k : Int) false [(false, 0, longK)] = 0 ∧ putE (k : Int) false [(false, 0, longK ++ ⟨#[97]⟩)] = 90 := by
  rcases h with rfl | rfl
  · exact ⟨by kernel_rfl, by kernel_rfl⟩
  · exact ⟨by kernel_rfl, by kernel_rfl⟩
theorem okL_ (s : ByteArray) (h : s.size ≤ maxLen) : ClOk [(false, 0, s)] := by
  intro c hc
  obtain rfl : c = (false, 0, s) := by simpa using hc
  exact ⟨(by decide : (-9223372036854775808 : Int) ≤ 0), (by decide : (0 : Int) ≤ 9223372036854775807), h⟩
theorem longK_size : longK.size = 1024 := by kernel_rfl
set_option maxRecDepth 100000 in
set_option maxHeartbeats 8000000 in
theorem colKnown_walk (w : World) (hT : Tabs w) :
    Calls Tryz.prog 10 #[] w fun e w' => e = .returned (.bool true) ∧ Below w.heap.size w w' := by
  obtain ⟨base, hbase⟩ : ∃ g, g = w.heap.size := ⟨_, rfl⟩
  have Hz := Lib.hid (Nat.le_of_eq hbase)
  have HT := Lib.hid (show ∀ w', Below base w w' → Tabs w' from fun w' h => hT.on (by rw [← hbase]; exact h))
  obtain ⟨G, hG⟩ : ∃ G, G = w.heap.size + 1 + 1 + 1 + 1 + 1 + 1 + 1 + 1 + 1 + 1 + 1 + 1 + 1 + 1 + 1 + 1 + 1 + 1 + 1 + 1 + 1 + 1 := ⟨_, rfl⟩
  have HG := Lib.hid hG
  have Hst := Lib.hid (rowsK_new w (cellsK w.heap.size).toArray rfl)
  rw [show w.heap.size + 22 = G from hG.symm] at Hst
  have HB0 := Lib.hid (show Below base w ((litK w rowsK).alloc (.cells (cellsK w.heap.size).toArray 22)) by rw [hbase]; exact Hst.out.2)
  rw [← hbase]
  clear hbase hT hG
  go_enter Tryz.func10, Tryz.ntmps10
  go_wp2
  rw [← HG.out]
  go_loopw [2] (fun i wr => ∃ k : Nat, k ≤ 7 ∧ i = .int .i64 (k : Int) ∧ Hid (RowsK wr G) ∧ Hid (Below base w wr)) (fun i _ => 7 - (intOf i).toNat)
  case atStart => exact ⟨0, by decide, rfl, Lib.hid Hst.out.1, HB0⟩
  case round =>
    clear HB0 Hst
    obtain ⟨k, hk, rfl, HR, HB⟩ := hrel
    by_cases hkt : k < 7
    · have d1 : decide ((k : Int) < 7) = true := by simp; omega
      go_wp2
      go_loopw [3] (fun i wr => ∃ j : Nat, j ≤ 2 ∧ i = .int .i64 (j : Int) ∧ Hid (RowsK wr G) ∧ Hid (Below base w wr)) (fun i _ => 2 - (intOf i).toNat)
      case atStart => exact ⟨0, by decide, rfl, HR, HB⟩
      case round =>
        clear HR HB
        obtain ⟨j, hj, rfl, HR, HB⟩ := hrel
        by_cases hjt : j < 2
        · have d2 : decide ((j : Int) < 2) = true := by simp; omega
          obtain ⟨nl, hnl⟩ : ∃ nl : Bool, ((j : Int) == 1) = nl := ⟨_, rfl⟩
          have HR1 := Lib.hid (HR.out.on (bal (Below.refl _ _) (.cells #[.int .i64 (k : Int), .bool nl] 24)))
          have HB1 := Lib.hid (bx_al Hz.out HB.out (.cells #[.int .i64 (k : Int), .bool nl] 24))
          have BT := Lib.hid (Blk.new wr 24 #[.int .i64 (k : Int), .bool nl])
          clear HR HB
          go_wp2
          obtain ⟨gt, hgt⟩ : ∃ gt, gt = wr.heap.size := ⟨_, rfl⟩
          rw [← hgt] at BT ⊢
          clear hgt
          go_loopw [5] (fun i wr => ∃ t : Nat, t ≤ 23 ∧ i = .int .i64 (t : Int) ∧ Hid (RowsK wr G) ∧ Hid (Blk wr gt 24 #[.int .i64 (k : Int), .bool nl]) ∧ Hid (Below base w wr)) (fun i _ => 23 - (intOf i).toNat)
          case atStart => exact ⟨0, by decide, rfl, HR1, BT, HB1⟩
          case round =>
            clear HR1 HB1 BT
            obtain ⟨t, ht, rfl, HR, BT, HB⟩ := hrel
            by_cases htt : t < 23
            · have d3 : decide ((t : Int) < 23) = true := by simp; omega
              go_wp2
              go_loopw [6] (fun i wr => ∃ m : Int, -1 ≤ m ∧ m ≤ 4 ∧ i = .int .i64 m ∧ Hid (RowsK wr G) ∧ Hid (Blk wr gt 24 #[.int .i64 (k : Int), .bool nl]) ∧ Hid (Below base w wr)) (fun i _ => (4 - intOf i).toNat)
              case atStart => exact ⟨-1, by decide, by decide, rfl, HR, BT, HB⟩
              case round =>
                clear HR HB BT
                obtain ⟨m, hm1, hm2, rfl, HR, BT, HB⟩ := hrel
                by_cases hmt : m < 4
                · have d4 : decide (m < 4) = true := by simp; omega
                  obtain ⟨A, n, xs, hcell, hgl, hrx, hn⟩ := HR.out t htt
                  have Hrx := Lib.hid hrx
                  have HTr := Lib.hid (HT.out _ HB.out)
                  have HC := Lib.hid (show ∀ w', Below wr.heap.size wr w' → w'.cell? ⟨G, t, none⟩ = some (.slice A n n) from fun w' h => (h.cell (p := ⟨G, t, none⟩) hgl).trans hcell)
                  have HK0 := Lib.hid (show ∀ w', Below wr.heap.size wr w' → w'.cell? ⟨gt, 0, none⟩ = some (.int .i64 (k : Int)) from fun w' h => (BT.out.on h).cell 0)
                  have HK1 := Lib.hid (show ∀ w', Below wr.heap.size wr w' → w'.cell? ⟨gt, 1, none⟩ = some (.bool nl) from fun w' h => (BT.out.on h).cell 1)
                  have hti : (t : Int) < 23 := by omega
                  clear hcell hgl hrx
                  go_wp2
                  have hS : Below wr.heap.size wr wr.drew := (Below.refl _ _).drew
                  refine wp_region_keep (fun w' => Below wr.heap.size wr w') [(0, false), (1, false), (2, false), (3, false), (4, false), (5, false), (6, true), (7, false)] (by kernel_rfl) (by kernel_rfl) (by kernel_rfl) (fun d _ _ _ _ h => by cases d <;> exact h) ?_
                  refine held_pure (v := ?_) rfl rfl (by simp [Region.wanted, yielded]) hS ?_ ?_
                  rotate_left
                  · intro w hw; go_simp; try with_reducible rfl
                  try simp only [Act.put, List.setIfInBounds_toArray, List.set_cons_succ, List.set_cons_zero]
                  refine held_pure (v := ?_) rfl rfl (by simp [Region.wanted, yielded]) hS ?_ ?_
                  rotate_left
                  · intro w hw; go_simp; try with_reducible rfl
                  try simp only [Act.put, List.setIfInBounds_toArray, List.set_cons_succ, List.set_cons_zero]
                  refine held_pure (v := ?_) rfl rfl (by simp [Region.wanted, yielded]) hS ?_ ?_
                  rotate_left
                  · intro w hw; go_simp; try with_reducible rfl
                  try simp only [Act.put, List.setIfInBounds_toArray, List.set_cons_succ, List.set_cons_zero]
                  refine held_pure (v := ?_) rfl rfl (by simp [Region.wanted, yielded]) hS ?_ ?_
                  rotate_left
                  · intro w hw; have c0 := HC.out w hw; clear hw; go_simp; try with_reducible rfl
                  try simp only [Act.put, List.setIfInBounds_toArray, List.set_cons_succ, List.set_cons_zero]
                  refine held_pure (v := ?_) rfl rfl (by simp [Region.wanted, yielded]) hS ?_ ?_
                  rotate_left
                  · intro w hw; have c0 := HK0.out w hw; have c1 := HK1.out w hw; clear hw; go_simp; try with_reducible rfl
                  try simp only [Act.put, List.setIfInBounds_toArray, List.set_cons_succ, List.set_cons_zero]
                  refine held_pure (v := ?_) rfl rfl (by simp [Region.wanted, yielded]) hS ?_ ?_
                  rotate_left
                  · intro w hw; go_simp; try with_reducible rfl
                  try simp only [Act.put, List.setIfInBounds_toArray, List.set_cons_succ, List.set_cons_zero]
                  refine held_eff1 rfl (by simp [Region.wanted, yielded]) fun K hK => ?_
                  go_simp
                  with_reducible refine (colGets_walk A n n xs (k : Int) nl m _ (Hrx.out.on hS) (Nat.le_refl _) (by simp only [maxLen]; omega) (by omega) (by omega) (HTr.out.on hS)).mono ?_
                  rintro e w5 ⟨rfl, hb5⟩
                  refine held_go hK (by exact bon hS hb5) fun hS => ?_
                  clear hK K
                  try simp only [Act.put, List.setIfInBounds_toArray, List.set_cons_succ, List.set_cons_zero]
                  clear hb5
                  refine held_pure (v := ?_) rfl rfl (by simp [Region.wanted, yielded]) hS ?_ ?_
                  rotate_left
                  · intro w hw; go_simp; try with_reducible rfl
                  try simp only [Act.put, List.setIfInBounds_toArray, List.set_cons_succ, List.set_cons_zero]
                  refine held_end ?_
                  have HB9 := Lib.hid (bx_on Hz.out HB.out hS)
                  have HR9 := Lib.hid (HR.out.on hS)
                  have BT9 := Lib.hid (BT.out.on hS)
                  clear hS
                  go_wp2
                  go_roundw
                  case rel => exact ⟨m + 1, by omega, by omega, by go_num, HR9, BT9, HB9⟩
                  case measure => simp [intOf]; omega
                · have d4 : decide (m < 4) = false := by simp; omega
                  go_wp2
                  go_roundw
                  case rel => exact ⟨t + 1, by omega, by go_num, HR, BT, HB⟩
                  case measure => simp [intOf]; omega
            · have d3 : decide ((t : Int) < 23) = false := by simp; omega
              obtain ⟨A, n, xs, hcell, hgl, hrx, hn⟩ := HR.out 3 (by decide)
              have Hrx := Lib.hid hrx
              have HTr := Lib.hid (HT.out _ HB.out)
              have HC := Lib.hid (show ∀ w', Below wr.heap.size wr w' → w'.cell? ⟨G, 3, none⟩ = some (.slice A n n) from fun w' h => (h.cell (p := ⟨G, 3, none⟩) hgl).trans hcell)
              have HK0 := Lib.hid (show ∀ w', Below wr.heap.size wr w' → w'.cell? ⟨gt, 0, none⟩ = some (.int .i64 (k : Int)) from fun w' h => (BT.out.on h).cell 0)
              have HK1 := Lib.hid (show ∀ w', Below wr.heap.size wr w' → w'.cell? ⟨gt, 1, none⟩ = some (.bool nl) from fun w' h => (BT.out.on h).cell 1)
              clear hcell hgl hrx
              go_wp2
              have hS : Below wr.heap.size wr wr.drew := (Below.refl _ _).drew
              refine wp_region_plan (fun w' => Below wr.heap.size wr w') (.pure 0 (.pure 1 (.pure 2 (.pure 3 (.eff 4 (.pure 5 (.pure 6 (.pure 7 (.eff 8 (.pure 9 (.pure 10 (.pure 11 (.pure 13 (.pure 14 (.pure 15 (.pure 16 (.pure 17 (.fork 12 18 (.eff 18 (.eff 19 (.pure 20 (.pure 21 (.pure 22 (.pure 23 (.pure 24 (.pure 25 (.eff 26 (.eff 27 (.pure 28 (.pure 29 .done)))))))))))) (.eff 12 (.eff 19 (.pure 20 (.pure 21 (.pure 22 (.pure 23 (.pure 24 (.pure 25 (.eff 26 (.eff 27 (.pure 28 (.pure 29 .done)))))))))))))))))))))))))))))) (by kernel_rfl) (by kernel_rfl) (by kernel_rfl) (fun d _ _ _ _ h => by cases d <;> exact h) ?_
              refine plan_pure (v := ?_) rfl rfl (by simp [Region.wanted, yielded]) hS ?_ ?_
              rotate_left
              · intro w hw; go_simp; try with_reducible rfl
              try simp only [Act.put, List.setIfInBounds_toArray, List.set_cons_succ, List.set_cons_zero]
              refine plan_pure (v := ?_) rfl rfl (by simp [Region.wanted, yielded]) hS ?_ ?_
              rotate_left
              · intro w hw; go_simp; try with_reducible rfl
              try simp only [Act.put, List.setIfInBounds_toArray, List.set_cons_succ, List.set_cons_zero]
              refine plan_pure (v := ?_) rfl rfl (by simp [Region.wanted, yielded]) hS ?_ ?_
              rotate_left
              · intro w hw; have c0 := HC.out w hw; clear hw; go_simp; try with_reducible rfl
              try simp only [Act.put, List.setIfInBounds_toArray, List.set_cons_succ, List.set_cons_zero]
              refine plan_pure (v := ?_) rfl rfl (by simp [Region.wanted, yielded]) hS ?_ ?_
              rotate_left
              · intro w hw; have c0 := HK0.out w hw; have c1 := HK1.out w hw; clear hw; go_simp; try with_reducible rfl
              try simp only [Act.put, List.setIfInBounds_toArray, List.set_cons_succ, List.set_cons_zero]
              refine plan_eff1 rfl (by simp [Region.wanted, yielded]) fun K hK => ?_
              go_simp
              with_reducible refine (colGets_walk A n n xs (k : Int) nl 1048577 _ (Hrx.out.on hS) (Nat.le_refl _) (by simp only [maxLen]; omega) (by decide) (by decide) (HTr.out.on hS)).mono ?_
              rintro e w5 ⟨rfl, hb5⟩
              refine held_go hK (by exact bon hS hb5) fun hS => ?_
              clear hK K
              try simp only [Act.put, List.setIfInBounds_toArray, List.set_cons_succ, List.set_cons_zero]
              clear hb5
              refine plan_pure (v := ?_) rfl rfl (by simp [Region.wanted, yielded]) hS ?_ ?_
              rotate_left
              · intro w hw; go_simp; try with_reducible rfl
              try simp only [Act.put, List.setIfInBounds_toArray, List.set_cons_succ, List.set_cons_zero]
              refine plan_pure (v := ?_) rfl rfl (by simp [Region.wanted, yielded]) hS ?_ ?_
              rotate_left
              · intro w hw; go_simp; try with_reducible rfl
              try simp only [Act.put, List.setIfInBounds_toArray, List.set_cons_succ, List.set_cons_zero]
              refine plan_pure (v := ?_) rfl rfl (by simp [Region.wanted, yielded]) hS ?_ ?_
              rotate_left
              · intro w hw; have c0 := HK0.out w hw; have c1 := HK1.out w hw; clear hw; go_simp; try with_reducible rfl
              try simp only [Act.put, List.setIfInBounds_toArray, List.set_cons_succ, List.set_cons_zero]
              refine plan_eff1 rfl (by simp [Region.wanted, yielded]) fun K hK => ?_
              go_simp
              with_reducible refine (colGets_walk none 0 0 [] (k : Int) nl (-9223372036854775808) _ (Reads.none_) (Nat.le_refl _) (by decide) (by decide) (by decide) (HTr.out.on hS)).mono ?_
              rintro e w5 ⟨rfl, hb5⟩
              refine held_go hK (by exact bon hS hb5) fun hS => ?_
              clear hK K
              try simp only [Act.put, List.setIfInBounds_toArray, List.set_cons_succ, List.set_cons_zero]
              clear hb5
              refine plan_pure (v := ?_) rfl rfl (by simp [Region.wanted, yielded]) hS ?_ ?_
              rotate_left
              · intro w hw; go_simp; try with_reducible rfl
              try simp only [Act.put, List.setIfInBounds_toArray, List.set_cons_succ, List.set_cons_zero]
              refine plan_pure (v := ?_) rfl rfl (by simp [Region.wanted, yielded]) hS ?_ ?_
              rotate_left
              · intro w hw; go_simp; try with_reducible rfl
              try simp only [Act.put, List.setIfInBounds_toArray, List.set_cons_succ, List.set_cons_zero]
              refine plan_pure (v := ?_) rfl rfl (by simp [Region.wanted, yielded]) hS ?_ ?_
              rotate_left
              · intro w hw; go_simp; try with_reducible rfl
              try simp only [Act.put, List.setIfInBounds_toArray, List.set_cons_succ, List.set_cons_zero]
              refine plan_pure (v := ?_) rfl rfl (by simp [Region.wanted, yielded]) hS ?_ ?_
              rotate_left
              · intro w hw; have c0 := HK0.out w hw; have c1 := HK1.out w hw; clear hw; go_simp; try with_reducible rfl
              try simp only [Act.put, List.setIfInBounds_toArray, List.set_cons_succ, List.set_cons_zero]
              refine plan_pure (v := ?_) rfl rfl (by simp [Region.wanted, yielded]) hS ?_ ?_
              rotate_left
              · intro w hw; go_simp; try with_reducible rfl
              try simp only [Act.put, List.setIfInBounds_toArray, List.set_cons_succ, List.set_cons_zero]
              refine plan_pure (v := ?_) rfl rfl (by simp [Region.wanted, yielded]) hS ?_ ?_
              rotate_left
              · intro w hw; go_simp; try with_reducible rfl
              try simp only [Act.put, List.setIfInBounds_toArray, List.set_cons_succ, List.set_cons_zero]
              refine plan_pure (v := ?_) rfl rfl (by simp [Region.wanted, yielded]) hS ?_ ?_
              rotate_left
              · intro w hw; go_simp; try with_reducible rfl
              try simp only [Act.put, List.setIfInBounds_toArray, List.set_cons_succ, List.set_cons_zero]
              refine plan_pure (v := ?_) rfl rfl (by simp [Region.wanted, yielded]) hS ?_ ?_
              rotate_left
              · intro w hw; go_simp; try with_reducible rfl
              try simp only [Act.put, List.setIfInBounds_toArray, List.set_cons_succ, List.set_cons_zero]
              refine plan_fork ?_ ?_
              · refine plan_eff1 rfl (by simp [Region.wanted, yielded]) fun K hK => ?_
                go_simp
                refine held_go hK (by exact bal hS _) fun hS => ?_
                clear hK K
                try simp only [Act.put, List.setIfInBounds_toArray, List.set_cons_succ, List.set_cons_zero]
                refine plan_eff1 rfl (by simp [Region.wanted, yielded]) fun K hK => ?_
                go_simp
                refine held_go hK (by exact bal hS _) fun hS => ?_
                clear hK K
                try simp only [Act.put, List.setIfInBounds_toArray, List.set_cons_succ, List.set_cons_zero]
                refine plan_eff1 rfl (by simp [Region.wanted, yielded]) fun K hK => ?_
                go_simp
                with_reducible refine (colPuts_walk _ 1 1 [1] (k : Int) nl _ 4 4 [(false, 0, ⟨#[]⟩), (false, 1, ⟨#[]⟩), (true, 0, ⟨#[]⟩), (false, 0, ⟨#[97]⟩)] _ ?_ (by decide) (by decide) ?_ (by decide) (by decide) (ok_of _ (by kernel_rfl)) (HTr.out.on hS)).mono ?_
                · repeat (first | exact reads_lit3 _ _ _ _ _ (by simp) rfl rfl | exact reads_lit _ _ _ _ _ _ (by simp) rfl rfl | exact reads_c0 | exact Reads.none_ | refine Reads.al ?_ _)
                · repeat (first | exact reads_lit3 _ _ _ _ _ (by simp) rfl rfl | exact reads_lit _ _ _ _ _ _ (by simp) rfl rfl | exact reads_c0 | exact Reads.none_ | refine Reads.al ?_ _)
                rintro e w5 ⟨rfl, hb5⟩
                refine held_go hK (by exact bon hS hb5) fun hS => ?_
                clear hK K
                try simp only [Act.put, List.setIfInBounds_toArray, List.set_cons_succ, List.set_cons_zero]
                clear hb5
                refine plan_pure (v := ?_) rfl rfl (by simp [Region.wanted, yielded]) hS ?_ ?_
                rotate_left
                · intro w hw; go_simp; try with_reducible rfl
                try simp only [Act.put, List.setIfInBounds_toArray, List.set_cons_succ, List.set_cons_zero]
                refine plan_pure (v := ?_) rfl rfl (by simp [Region.wanted, yielded]) hS ?_ ?_
                rotate_left
                · intro w hw; go_simp; try with_reducible rfl
                try simp only [Act.put, List.setIfInBounds_toArray, List.set_cons_succ, List.set_cons_zero]
                refine plan_pure (v := ?_) rfl rfl (by simp [Region.wanted, yielded]) hS ?_ ?_
                rotate_left
                · intro w hw; go_simp; try with_reducible rfl
                try simp only [Act.put, List.setIfInBounds_toArray, List.set_cons_succ, List.set_cons_zero]
                refine plan_pure (v := ?_) rfl rfl (by simp [Region.wanted, yielded]) hS ?_ ?_
                rotate_left
                · intro w hw; have c0 := HK0.out w hw; have c1 := HK1.out w hw; clear hw; go_simp; try with_reducible rfl
                try simp only [Act.put, List.setIfInBounds_toArray, List.set_cons_succ, List.set_cons_zero]
                refine plan_pure (v := ?_) rfl rfl (by simp [Region.wanted, yielded]) hS ?_ ?_
                rotate_left
                · intro w hw; go_simp; try with_reducible rfl
                try simp only [Act.put, List.setIfInBounds_toArray, List.set_cons_succ, List.set_cons_zero]
                refine plan_pure (v := ?_) rfl rfl (by simp [Region.wanted, yielded]) hS ?_ ?_
                rotate_left
                · intro w hw; go_simp; try with_reducible rfl
                try simp only [Act.put, List.setIfInBounds_toArray, List.set_cons_succ, List.set_cons_zero]
                refine plan_eff1 rfl (by simp [Region.wanted, yielded]) fun K hK => ?_
                go_simp
                refine held_go hK (by exact bal hS _) fun hS => ?_
                clear hK K
                try simp only [Act.put, List.setIfInBounds_toArray, List.set_cons_succ, List.set_cons_zero]
                refine plan_eff1 rfl (by simp [Region.wanted, yielded]) fun K hK => ?_
                go_simp
                with_reducible refine (colPuts_walk none 0 0 [] (k : Int) nl _ 2 2 [(false, 0, ⟨#[]⟩), (false, 0, ⟨#[]⟩)] _ Reads.none_ (by decide) (by decide) ?_ (by decide) (by decide) (ok_of _ (by kernel_rfl)) (HTr.out.on hS)).mono ?_
                · repeat (first | exact reads_lit3 _ _ _ _ _ (by simp) rfl rfl | exact reads_lit _ _ _ _ _ _ (by simp) rfl rfl | exact reads_c0 | exact Reads.none_ | refine Reads.al ?_ _)
                rintro e w5 ⟨rfl, hb5⟩
                refine held_go hK (by exact bon hS hb5) fun hS => ?_
                clear hK K
                try simp only [Act.put, List.setIfInBounds_toArray, List.set_cons_succ, List.set_cons_zero]
                clear hb5
                refine plan_pure (v := ?_) rfl rfl (by simp [Region.wanted, yielded]) hS ?_ ?_
                rotate_left
                · intro w hw; go_simp; try with_reducible rfl
                try simp only [Act.put, List.setIfInBounds_toArray, List.set_cons_succ, List.set_cons_zero]
                refine plan_pure (v := ?_) rfl rfl (by simp [Region.wanted, yielded]) hS ?_ ?_
                rotate_left
                · intro w hw; go_simp; try with_reducible rfl
                try simp only [Act.put, List.setIfInBounds_toArray, List.set_cons_succ, List.set_cons_zero]
                refine plan_end ?_
                have HB9 := Lib.hid (bx_on Hz.out HB.out hS)
                have HR9 := Lib.hid (HR.out.on hS)
                clear hS
                go_wp2
                go_roundw
                case rel => exact ⟨j + 1, by omega, by go_num, HR9.out, HB9.out⟩
                case measure => simp [intOf]; omega
              · refine plan_eff1 rfl (by simp [Region.wanted, yielded]) fun K hK => ?_
                go_simp
                refine held_go hK (by exact bal hS _) fun hS => ?_
                clear hK K
                try simp only [Act.put, List.setIfInBounds_toArray, List.set_cons_succ, List.set_cons_zero]
                refine plan_eff1 rfl (by simp [Region.wanted, yielded]) fun K hK => ?_
                go_simp
                refine held_go hK (by exact bal hS _) fun hS => ?_
                clear hK K
                try simp only [Act.put, List.setIfInBounds_toArray, List.set_cons_succ, List.set_cons_zero]
                refine plan_eff1 rfl (by simp [Region.wanted, yielded]) fun K hK => ?_
                go_simp
                with_reducible refine (colPuts_walk _ 1 1 [1] (k : Int) nl _ 4 4 [(false, 0, ⟨#[]⟩), (false, 1, ⟨#[]⟩), (true, 0, ⟨#[]⟩), (false, 0, ⟨#[97]⟩)] _ ?_ (by decide) (by decide) ?_ (by decide) (by decide) (ok_of _ (by kernel_rfl)) (HTr.out.on hS)).mono ?_
                · repeat (first | exact reads_lit3 _ _ _ _ _ (by simp) rfl rfl | exact reads_lit _ _ _ _ _ _ (by simp) rfl rfl | exact reads_c0 | exact Reads.none_ | refine Reads.al ?_ _)
                · repeat (first | exact reads_lit3 _ _ _ _ _ (by simp) rfl rfl | exact reads_lit _ _ _ _ _ _ (by simp) rfl rfl | exact reads_c0 | exact Reads.none_ | refine Reads.al ?_ _)
                rintro e w5 ⟨rfl, hb5⟩
                refine held_go hK (by exact bon hS hb5) fun hS => ?_
                clear hK K
                try simp only [Act.put, List.setIfInBounds_toArray, List.set_cons_succ, List.set_cons_zero]
                clear hb5
                refine plan_pure (v := ?_) rfl rfl (by simp [Region.wanted, yielded]) hS ?_ ?_
                rotate_left
                · intro w hw; go_simp; try with_reducible rfl
                try simp only [Act.put, List.setIfInBounds_toArray, List.set_cons_succ, List.set_cons_zero]
                refine plan_pure (v := ?_) rfl rfl (by simp [Region.wanted, yielded]) hS ?_ ?_
                rotate_left
                · intro w hw; go_simp; try with_reducible rfl
                try simp only [Act.put, List.setIfInBounds_toArray, List.set_cons_succ, List.set_cons_zero]
                refine plan_pure (v := ?_) rfl rfl (by simp [Region.wanted, yielded]) hS ?_ ?_
                rotate_left
                · intro w hw; go_simp; try with_reducible rfl
                try simp only [Act.put, List.setIfInBounds_toArray, List.set_cons_succ, List.set_cons_zero]
                refine plan_pure (v := ?_) rfl rfl (by simp [Region.wanted, yielded]) hS ?_ ?_
                rotate_left
                · intro w hw; have c0 := HK0.out w hw; have c1 := HK1.out w hw; clear hw; go_simp; try with_reducible rfl
                try simp only [Act.put, List.setIfInBounds_toArray, List.set_cons_succ, List.set_cons_zero]
                refine plan_pure (v := ?_) rfl rfl (by simp [Region.wanted, yielded]) hS ?_ ?_
                rotate_left
                · intro w hw; go_simp; try with_reducible rfl
                try simp only [Act.put, List.setIfInBounds_toArray, List.set_cons_succ, List.set_cons_zero]
                refine plan_pure (v := ?_) rfl rfl (by simp [Region.wanted, yielded]) hS ?_ ?_
                rotate_left
                · intro w hw; go_simp; try with_reducible rfl
                try simp only [Act.put, List.setIfInBounds_toArray, List.set_cons_succ, List.set_cons_zero]
                refine plan_eff1 rfl (by simp [Region.wanted, yielded]) fun K hK => ?_
                go_simp
                refine held_go hK (by exact bal hS _) fun hS => ?_
                clear hK K
                try simp only [Act.put, List.setIfInBounds_toArray, List.set_cons_succ, List.set_cons_zero]
                refine plan_eff1 rfl (by simp [Region.wanted, yielded]) fun K hK => ?_
                go_simp
                with_reducible refine (colPuts_walk none 0 0 [] (k : Int) nl _ 2 2 [(false, 0, ⟨#[]⟩), (false, 0, ⟨#[]⟩)] _ Reads.none_ (by decide) (by decide) ?_ (by decide) (by decide) (ok_of _ (by kernel_rfl)) (HTr.out.on hS)).mono ?_
                · repeat (first | exact reads_lit3 _ _ _ _ _ (by simp) rfl rfl | exact reads_lit _ _ _ _ _ _ (by simp) rfl rfl | exact reads_c0 | exact Reads.none_ | refine Reads.al ?_ _)
                rintro e w5 ⟨rfl, hb5⟩
                refine held_go hK (by exact bon hS hb5) fun hS => ?_
                clear hK K
                try simp only [Act.put, List.setIfInBounds_toArray, List.set_cons_succ, List.set_cons_zero]
                clear hb5
                refine plan_pure (v := ?_) rfl rfl (by simp [Region.wanted, yielded]) hS ?_ ?_
                rotate_left
                · intro w hw; go_simp; try with_reducible rfl
                try simp only [Act.put, List.setIfInBounds_toArray, List.set_cons_succ, List.set_cons_zero]
                refine plan_pure (v := ?_) rfl rfl (by simp [Region.wanted, yielded]) hS ?_ ?_
                rotate_left
                · intro w hw; go_simp; try with_reducible rfl
                try simp only [Act.put, List.setIfInBounds_toArray, List.set_cons_succ, List.set_cons_zero]
                refine plan_end ?_
                have HB9 := Lib.hid (bx_on Hz.out HB.out hS)
                have HR9 := Lib.hid (HR.out.on hS)
                clear hS
                go_wp2
                go_roundw
                case rel => exact ⟨j + 1, by omega, by go_num, HR9.out, HB9.out⟩
                case measure => simp [intOf]; omega
        · have d2 : decide ((j : Int) < 2) = false := by simp; omega
          go_wp2
          go_roundw
          case rel => exact ⟨k + 1, by omega, by go_num, HR, HB⟩
          case measure => simp [intOf]; omega
    · have d1 : decide ((k : Int) < 7) = false := by simp; omega
      have cR : Calls Tryz.prog 23 #[.string ⟨#[97]⟩, .int .i64 1024] wr _ := repeat_any ⟨#[97]⟩ 1024 wr (by decide) (by decide)
      have CR := Lib.hid cR
      clear cR
      go_wp2_with fail
      with_reducible refine CR.out.mono ?_
      rintro e w4 ⟨rfl, hb4⟩
      have HB4 := Lib.hid (bx_on Hz.out HB.out hb4)
      clear hb4 CR
      rw [show (⟨(Lib.repeatL (⟨#[97]⟩ : ByteArray).data.toList 1024).toArray⟩ : ByteArray) = longK from rfl]
      obtain ⟨L, hL⟩ : ∃ L, L = longK := ⟨_, rfl⟩
      have Hput := Lib.hid longK_put
      have Hsz := Lib.hid longK_size
      rw [← hL] at Hput Hsz ⊢
      clear hL
      go_wp2
      go_loopw [8] (fun i wr => ∃ k : Nat, 4 ≤ k ∧ k ≤ 6 ∧ i = .int .i64 (k : Int) ∧ Hid (Below base w wr)) (fun i _ => 6 - (intOf i).toNat)
      case atStart => exact ⟨4, by decide, by decide, rfl, HB4⟩
      case round =>
        clear HB HB4 HR hk hkt
        obtain ⟨k, hk4, hk6, rfl, HB⟩ := hrel
        by_cases hkt : k < 6
        · have d2 : decide ((k : Int) < 6) = true := by simp; omega
          have hk45 : k = 4 ∨ k = 5 := by omega
          obtain ⟨hp1, hp2⟩ := Hput.out k hk45
          have HP1 := Lib.hid hp1
          have HP2 := Lib.hid hp2
          have HTr := Lib.hid (HT.out _ HB.out)
          have BT := Lib.hid (Blk.new wr 24 #[.int .i64 (k : Int), .bool false])
          obtain ⟨i0, hi0, hz0, hz1, hz2⟩ := info_parts u8_info
          have hsz := Hsz.out
          clear hp1 hp2 hk45
          go_wp2_with fail
          with_reducible refine (cput_any none 0 0 [] (k : Int) false _ 1 1 [(false, 0, L)] _ Reads.none_ (by decide) ?_ (by decide) (okL_ L (by rw [Hsz.out]; decide)) (HTr.out.on (by repeat (first | exact Below.refl _ _ | assumption | refine bal ?_ _ | refine Below.drew ?_ | refine bon ?_ (by assumption))))).mono ?_
          · repeat (first | exact reads_lit3 _ _ _ _ _ (by simp) rfl rfl | exact reads_lit _ _ _ _ _ _ (by simp) rfl rfl | exact reads_c0 | exact Reads.none_ | refine Reads.al ?_ _)
          rw [HP1.out]
          rintro e w3 ⟨A3, n3, c3, rfl, g3, g4, o3, hb3⟩
          have HB3 := Lib.hid (show Below wr.heap.size wr w3 from bon (by repeat (first | exact Below.refl _ _ | assumption | refine bal ?_ _ | refine Below.drew ?_ | refine bon ?_ (by assumption))) hb3)
          have BT3 := Lib.hid ((BT.out.alloc (.cells #[.bool false, .int .i64 0, .string L] 41)).on hb3)
          have X3 := Lib.hid (own_reads o3)
          have G3 := Lib.hid (And.intro g3 g4)
          generalize putO (k : Int) false [(false, 0, L)] [] = xs3 at X3
          have c40 := BT3.out.cell 0
          have c41 := BT3.out.cell 1
          clear o3 hb3 g3 g4
          go_wp2_with fail
          with_reducible refine (cput_any none 0 0 [] (k : Int) false _ 1 1 [(false, 0, L ++ ⟨#[97]⟩)] _ Reads.none_ (by decide) ?_ (by decide) (okL_ _ (by rw [ByteArray.size_append, Hsz.out]; decide)) (HTr.out.on (bon HB3.out (by repeat (first | exact Below.refl _ _ | assumption | refine bal ?_ _ | refine Below.drew ?_ | refine bon ?_ (by assumption)))))).mono ?_
          · repeat (first | exact reads_lit3 _ _ _ _ _ (by simp) rfl rfl | exact reads_lit _ _ _ _ _ _ (by simp) rfl rfl | exact reads_c0 | exact Reads.none_ | refine Reads.al ?_ _)
          rw [HP2.out]
          rintro e w4 ⟨A4, n4, c4, rfl, -, -, -, hb4⟩
          have HB4 := Lib.hid (show Below wr.heap.size wr w4 from bon (bal HB3.out _) hb4)
          have BT4 := Lib.hid ((BT3.out.alloc (.cells #[.bool false, .int .i64 0, .string (L ++ ⟨#[97]⟩)] 41)).on hb4)
          have X4 := Lib.hid ((X3.out.al (.cells #[.bool false, .int .i64 0, .string (L ++ ⟨#[97]⟩)] 41)).on hb4)
          have HTr := Lib.hid (HTr.out.on HB4.out)
          have HK0 := Lib.hid (show ∀ w', Below w4.heap.size w4 w' → w'.cell? ⟨wr.heap.size, 0, none⟩ = some (.int .i64 (k : Int)) from fun w' h => (BT4.out.on h).cell 0)
          have HK1 := Lib.hid (show ∀ w', Below w4.heap.size w4 w' → w'.cell? ⟨wr.heap.size, 1, none⟩ = some (.bool false) from fun w' h => (BT4.out.on h).cell 1)
          clear hb4 c40 c41
          go_wp2
          have hS : Below w4.heap.size w4 w4.drew := (Below.refl _ _).drew
          refine wp_region_plan (fun w' => Below w4.heap.size w4 w') (.pure 0 (.pure 1 (.pure 2 (.pure 3 (.pure 4 (.pure 5 (.pure 6 (.pure 7 (.pure 8 (.eff 9 (.pure 10 (.pure 11 (.pure 12 (.pure 14 (.pure 15 (.pure 17 (.eff 13 (.eff 16 (.eff 18 (.pure 19 (.pure 20 (.pure 21 (.pure 23 (.pure 24 (.pure 26 (.eff 22 (.eff 25 (.eff 27 (.pure 28 (.pure 29 .done)))))))))))))))))))))))))))))) (by kernel_rfl) (by kernel_rfl) (by kernel_rfl) (fun d _ _ _ _ h => by cases d <;> exact h) ?_
          refine plan_pure (v := ?_) rfl rfl (by simp [Region.wanted, yielded]) hS ?_ ?_
          rotate_left
          · intro w hw; go_simp; try with_reducible rfl
          try simp only [Act.put, List.setIfInBounds_toArray, List.set_cons_succ, List.set_cons_zero]
          refine plan_pure (v := ?_) rfl rfl (by simp [Region.wanted, yielded]) hS ?_ ?_
          rotate_left
          · intro w hw; go_simp; try with_reducible rfl
          try simp only [Act.put, List.setIfInBounds_toArray, List.set_cons_succ, List.set_cons_zero]
          refine plan_pure (v := ?_) rfl rfl (by simp [Region.wanted, yielded]) hS ?_ ?_
          rotate_left
          · intro w hw; go_simp; try with_reducible rfl
          try simp only [Act.put, List.setIfInBounds_toArray, List.set_cons_succ, List.set_cons_zero]
          refine plan_pure (v := ?_) rfl rfl (by simp [Region.wanted, yielded]) hS ?_ ?_
          rotate_left
          · intro w hw; go_simp; try with_reducible rfl
          try simp only [Act.put, List.setIfInBounds_toArray, List.set_cons_succ, List.set_cons_zero]
          refine plan_pure (v := ?_) rfl rfl (by simp [Region.wanted, yielded]) hS ?_ ?_
          rotate_left
          · intro w hw; go_simp; try with_reducible rfl
          try simp only [Act.put, List.setIfInBounds_toArray, List.set_cons_succ, List.set_cons_zero]
          refine plan_pure (v := ?_) rfl rfl (by simp [Region.wanted, yielded]) hS ?_ ?_
          rotate_left
          · intro w hw; go_simp; try with_reducible rfl
          try simp only [Act.put, List.setIfInBounds_toArray, List.set_cons_succ, List.set_cons_zero]
          refine plan_pure (v := ?_) rfl rfl (by simp [Region.wanted, yielded]) hS ?_ ?_
          rotate_left
          · intro w hw; go_simp; try with_reducible rfl
          try simp only [Act.put, List.setIfInBounds_toArray, List.set_cons_succ, List.set_cons_zero]
          refine plan_pure (v := ?_) rfl rfl (by simp [Region.wanted, yielded]) hS ?_ ?_
          rotate_left
          · intro w hw; go_simp; try with_reducible rfl
          try simp only [Act.put, List.setIfInBounds_toArray, List.set_cons_succ, List.set_cons_zero]
          refine plan_pure (v := ?_) rfl rfl (by simp [Region.wanted, yielded]) hS ?_ ?_
          rotate_left
          · intro w hw; have c0 := HK0.out w hw; have c1 := HK1.out w hw; clear hw; go_simp; try with_reducible rfl
          try simp only [Act.put, List.setIfInBounds_toArray, List.set_cons_succ, List.set_cons_zero]
          refine plan_eff1 rfl (by simp [Region.wanted, yielded]) fun K hK => ?_
          go_simp
          with_reducible refine (colGets_walk A3 n3 c3 xs3 (k : Int) false 1 _ (X4.out.on hS) (G3.out.1) (G3.out.2) (by decide) (by decide) (HTr.out.on hS)).mono ?_
          rintro e w5 ⟨rfl, hb5⟩
          refine held_go hK (by exact bon hS hb5) fun hS => ?_
          clear hK K
          try simp only [Act.put, List.setIfInBounds_toArray, List.set_cons_succ, List.set_cons_zero]
          clear hb5
          refine plan_pure (v := ?_) rfl rfl (by simp [Region.wanted, yielded]) hS ?_ ?_
          rotate_left
          · intro w hw; go_simp; try with_reducible rfl
          try simp only [Act.put, List.setIfInBounds_toArray, List.set_cons_succ, List.set_cons_zero]
          refine plan_pure (v := ?_) rfl rfl (by simp [Region.wanted, yielded]) hS ?_ ?_
          rotate_left
          · intro w hw; go_simp; try with_reducible rfl
          try simp only [Act.put, List.setIfInBounds_toArray, List.set_cons_succ, List.set_cons_zero]
          refine plan_pure (v := ?_) rfl rfl (by simp [Region.wanted, yielded]) hS ?_ ?_
          rotate_left
          · intro w hw; go_simp; try with_reducible rfl
          try simp only [Act.put, List.setIfInBounds_toArray, List.set_cons_succ, List.set_cons_zero]
          refine plan_pure (v := ?_) rfl rfl (by simp [Region.wanted, yielded]) hS ?_ ?_
          rotate_left
          · intro w hw; go_simp; try with_reducible rfl
          try simp only [Act.put, List.setIfInBounds_toArray, List.set_cons_succ, List.set_cons_zero]
          refine plan_pure (v := ?_) rfl rfl (by simp [Region.wanted, yielded]) hS ?_ ?_
          rotate_left
          · intro w hw; go_simp; try with_reducible rfl
          try simp only [Act.put, List.setIfInBounds_toArray, List.set_cons_succ, List.set_cons_zero]
          refine plan_pure (v := ?_) rfl rfl (by simp [Region.wanted, yielded]) hS ?_ ?_
          rotate_left
          · intro w hw; have c0 := HK0.out w hw; have c1 := HK1.out w hw; clear hw; go_simp; try with_reducible rfl
          try simp only [Act.put, List.setIfInBounds_toArray, List.set_cons_succ, List.set_cons_zero]
          refine plan_eff1 rfl (by simp [Region.wanted, yielded]) fun K hK => ?_
          go_simp
          have HO := Lib.hid ((Blk.new w5 5 #[.int .u8 129, .int .u8 8]).own (base := w5.heap.size) (n := 2) (xs := u8s [129, 8]) (Nat.le_refl _) rfl rfl (by decide))
          have H5 := Lib.hid hS
          refine held_go hK (by exact bal hS _) fun hS => ?_
          clear hK K
          try simp only [Act.put, List.setIfInBounds_toArray, List.set_cons_succ, List.set_cons_zero]
          refine plan_eff1 rfl (by simp [Region.wanted, yielded]) fun K hK => ?_
          refine wp_append_str (.tmp 134) (.tmp 136) 22 9 rfl w5.heap.size 5 i0 Tryz.underlying22 Tryz.underlying9 hi0 hz0 hz1 hz2 (some ⟨w5.heap.size, 0, none⟩) 2 2 [129, 8] rfl HO.out (L ++ ⟨#[97, 97]⟩) rfl (by rw [Array.length_toList]; show 2 + (L ++ ⟨#[97, 97]⟩).size ≤ _; rw [ByteArray.size_append, Hsz.out]; decide) (by simp) ?_
          intro A9 c9 w6 q3 q4 qg q1 q2
          obtain ⟨n9, hn9⟩ : ∃ n9, n9 = 2 + (L ++ ⟨#[97, 97]⟩).data.toList.length := ⟨_, rfl⟩
          rw [← hn9] at q3 q1 ⊢
          have R6 := Lib.hid (own_reads q3)
          have hT := hS.trans (q4.mono H5.out.size)
          generalize [129, 8] ++ (L ++ ⟨#[97, 97]⟩).data.toList = ys9 at R6
          have Q1 := Lib.hid q1
          have Q2 := Lib.hid q2
          clear q1 q2 q3 q4 qg hn9 HO H5
          refine held_go hK (by exact hT) fun hS => ?_
          clear hK K
          try simp only [Act.put, List.setIfInBounds_toArray, List.set_cons_succ, List.set_cons_zero]
          clear hT
          refine plan_eff1 rfl (by simp [Region.wanted, yielded]) fun K hK => ?_
          go_simp
          with_reducible refine (colGets_walk A9 n9 c9 ys9 (k : Int) false 1 _ (R6.out) (Q1.out) (Q2.out) (by decide) (by decide) (HTr.out.on hS)).mono ?_
          rintro e w5 ⟨rfl, hb5⟩
          refine held_go hK (by exact bon hS hb5) fun hS => ?_
          clear hK K
          try simp only [Act.put, List.setIfInBounds_toArray, List.set_cons_succ, List.set_cons_zero]
          clear hb5
          clear R6 Q1 Q2
          refine plan_pure (v := ?_) rfl rfl (by simp [Region.wanted, yielded]) hS ?_ ?_
          rotate_left
          · intro w hw; go_simp; try with_reducible rfl
          try simp only [Act.put, List.setIfInBounds_toArray, List.set_cons_succ, List.set_cons_zero]
          refine plan_pure (v := ?_) rfl rfl (by simp [Region.wanted, yielded]) hS ?_ ?_
          rotate_left
          · intro w hw; go_simp; try with_reducible rfl
          try simp only [Act.put, List.setIfInBounds_toArray, List.set_cons_succ, List.set_cons_zero]
          refine plan_pure (v := ?_) rfl rfl (by simp [Region.wanted, yielded]) hS ?_ ?_
          rotate_left
          · intro w hw; go_simp; try with_reducible rfl
          try simp only [Act.put, List.setIfInBounds_toArray, List.set_cons_succ, List.set_cons_zero]
          refine plan_pure (v := ?_) rfl rfl (by simp [Region.wanted, yielded]) hS ?_ ?_
          rotate_left
          · intro w hw; go_simp; try with_reducible rfl
          try simp only [Act.put, List.setIfInBounds_toArray, List.set_cons_succ, List.set_cons_zero]
          refine plan_pure (v := ?_) rfl rfl (by simp [Region.wanted, yielded]) hS ?_ ?_
          rotate_left
          · intro w hw; go_simp; try with_reducible rfl
          try simp only [Act.put, List.setIfInBounds_toArray, List.set_cons_succ, List.set_cons_zero]
          refine plan_pure (v := ?_) rfl rfl (by simp [Region.wanted, yielded]) hS ?_ ?_
          rotate_left
          · intro w hw; have c0 := HK0.out w hw; have c1 := HK1.out w hw; clear hw; go_simp; try with_reducible rfl
          try simp only [Act.put, List.setIfInBounds_toArray, List.set_cons_succ, List.set_cons_zero]
          refine plan_eff1 rfl (by simp [Region.wanted, yielded]) fun K hK => ?_
          go_simp
          have HO := Lib.hid ((Blk.new w5 5 #[.int .u8 1, .int .u8 129, .int .u8 8]).own (base := w5.heap.size) (n := 3) (xs := u8s [1, 129, 8]) (Nat.le_refl _) rfl rfl (by decide))
          have H5 := Lib.hid hS
          refine held_go hK (by exact bal hS _) fun hS => ?_
          clear hK K
          try simp only [Act.put, List.setIfInBounds_toArray, List.set_cons_succ, List.set_cons_zero]
          refine plan_eff1 rfl (by simp [Region.wanted, yielded]) fun K hK => ?_
          refine wp_append_str (.tmp 143) (.tmp 145) 22 9 rfl w5.heap.size 5 i0 Tryz.underlying22 Tryz.underlying9 hi0 hz0 hz1 hz2 (some ⟨w5.heap.size, 0, none⟩) 3 3 [1, 129, 8] rfl HO.out (L ++ ⟨#[97, 0]⟩) rfl (by rw [Array.length_toList]; show 3 + (L ++ ⟨#[97, 0]⟩).size ≤ _; rw [ByteArray.size_append, Hsz.out]; decide) (by simp) ?_
          intro A9 c9 w6 q3 q4 qg q1 q2
          obtain ⟨n9, hn9⟩ : ∃ n9, n9 = 3 + (L ++ ⟨#[97, 0]⟩).data.toList.length := ⟨_, rfl⟩
          rw [← hn9] at q3 q1 ⊢
          have R6 := Lib.hid (own_reads q3)
          have hT := hS.trans (q4.mono H5.out.size)
          generalize [1, 129, 8] ++ (L ++ ⟨#[97, 0]⟩).data.toList = ys9 at R6
          have Q1 := Lib.hid q1
          have Q2 := Lib.hid q2
          clear q1 q2 q3 q4 qg hn9 HO H5
          refine held_go hK (by exact hT) fun hS => ?_
          clear hK K
          try simp only [Act.put, List.setIfInBounds_toArray, List.set_cons_succ, List.set_cons_zero]
          clear hT
          refine plan_eff1 rfl (by simp [Region.wanted, yielded]) fun K hK => ?_
          go_simp
          with_reducible refine (colGets_walk A9 n9 c9 ys9 (k : Int) false 1 _ (R6.out) (Q1.out) (Q2.out) (by decide) (by decide) (HTr.out.on hS)).mono ?_
          rintro e w5 ⟨rfl, hb5⟩
          refine held_go hK (by exact bon hS hb5) fun hS => ?_
          clear hK K
          try simp only [Act.put, List.setIfInBounds_toArray, List.set_cons_succ, List.set_cons_zero]
          clear hb5
          refine plan_pure (v := ?_) rfl rfl (by simp [Region.wanted, yielded]) hS ?_ ?_
          rotate_left
          · intro w hw; go_simp; try with_reducible rfl
          try simp only [Act.put, List.setIfInBounds_toArray, List.set_cons_succ, List.set_cons_zero]
          refine plan_pure (v := ?_) rfl rfl (by simp [Region.wanted, yielded]) hS ?_ ?_
          rotate_left
          · intro w hw; go_simp; try with_reducible rfl
          try simp only [Act.put, List.setIfInBounds_toArray, List.set_cons_succ, List.set_cons_zero]
          refine plan_end ?_
          have HB9 := Lib.hid (bx_on Hz.out HB.out (bon HB4.out hS))
          clear hS
          go_wp2
          go_roundw
          case rel => exact ⟨k + 1, by omega, by omega, by go_num, HB9⟩
          case measure => simp [intOf]; omega
        · have d2 : decide ((k : Int) < 6) = false := by simp; omega
          have HTr := Lib.hid (HT.out _ HB.out)
          go_wp2_with fail
          with_reducible refine (works_yes _ HTr.out).mono ?_
          rintro e w7 ⟨rfl, hb7⟩
          have HB7 := Lib.hid (bx_on Hz.out HB.out hb7)
          clear hb7
          go_wp2
          go_ret
          exact ⟨rfl, HB7.out⟩
end Go.Proofs.YtfgpbnfobpfacaaGreatDoor
