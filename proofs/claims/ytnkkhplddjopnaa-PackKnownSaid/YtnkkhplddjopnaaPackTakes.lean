/- Layer 3, walked: size and takes. -/
import Derived.Test.YtnkkhplddjopnaaPackAsk
import Derived.Test.YtnkkhplddjopnaaFork
set_option linter.unusedVariables false
set_option linter.unusedSimpArgs false
namespace Go.Proofs.Ytnkkhplddjopnaa
open Go.RowKit
theorem toI_wrap (n : Nat) : IntKind.i64.wrap (n : Int) = toI n := by
  unfold toI wrap64
  simp only [IntKind.wrap, IntKind.signed, IntKind.bits]
  simp
  split <;> omega
theorem text_eqb (a b : ByteArray) : (a.toList == b.toList) = decide (a = b) := by
  by_cases h : a = b
  · rw [h, decide_eq_true rfl]; simp
  · rw [decide_eq_false h, Lib.bytes_beq_false_iff]; exact h
/-- Is that the next piece? the new place, the new error. -/
def takeA (xs : List UInt8) (p e : Nat) (k : Int) (n : Nat) (s : ByteArray) : Bool × Nat × Nat :=
  if k = 0 then (((byteA xs p e).1 : Int) == ((n % 256 : Nat) : Int), (byteA xs p e).2) else if k = 1 then (((varA xs p e).1 : Int) == (n : Int), (varA xs p e).2) else if k = 2 then (zag (varA xs p e).1 == toI n, (varA xs p e).2)
  else if k = 3 then (decide ((textA xs p e 40).1 = clipT s), (textA xs p e 40).2) else if k = 4 then (decide (txt (rawA xs p e ((clipT s).size : Int)).1 = clipT s), (rawA xs p e ((clipT s).size : Int)).2) else (((wordA xs p e).1 : Int) == ((n % 4294967296 : Nat) : Int), (wordA xs p e).2)
set_option maxRecDepth 100000 in
set_option maxHeartbeats 2000000 in
theorem psize_any (kind : Int) (n : Nat) (s : ByteArray) (w : World) (hk1 : -9223372036854775808 ≤ kind) (hk2 : kind ≤ 9223372036854775807) (hn : n < 18446744073709551616) (hs : s.size ≤ maxLen) :
    Calls Try.prog 35 #[.agg #[.int .i64 kind, .int .u64 (n : Int), .string s]] w fun e w' => e = .returned (.int .i64 ((pieceB (kind % 6) n s).length : Int)) ∧ Below w.heap.size w w' := by
  have hk : kind % 6 = 0 ∨ kind % 6 = 1 ∨ kind % 6 = 2 ∨ kind % 6 = 3 ∨ kind % 6 = 4 ∨ kind % 6 = 5 := by omega
  have Hn := Lib.hid hn
  have Hs := Lib.hid hs
  have hba : Below w.heap.size w (w.alloc (.cells #[.int .i64 kind, .int .u64 (n : Int), .string s] 30)) := (Below.refl _ _).alloc (Nat.le_refl _) _
  have Hba := Lib.hid hba
  clear hba hs
  rcases hk with hk | hk | hk | hk | hk | hk
  · have Hk := Lib.hid hk
    have hpb := pieceB0 n s
    rw [hk, hpb]
    clear hk hpb
    go_enter Try.func35, Try.ntmps35
    go_wp2_with fail
    with_reducible refine (bring_any kind 6 _ hk1 hk2 (by decide) (by decide)).mono ?_
    rintro e w' ⟨rfl, rfl⟩
    rw [Hk.out]
    go_wp2
    go_ret
    exact ⟨rfl, Hba.out⟩
  · have Hk := Lib.hid hk
    have hpb := pieceB1 n s
    rw [hk, hpb]
    clear hk hpb
    go_enter Try.func35, Try.ntmps35
    go_wp2_with fail
    with_reducible refine (bring_any kind 6 _ hk1 hk2 (by decide) (by decide)).mono ?_
    rintro e w' ⟨rfl, rfl⟩
    rw [Hk.out]
    go_wp2_with fail
    with_reducible refine (size_any n _ Hn.out).mono ?_
    rintro e w' ⟨rfl, rfl⟩
    go_wp2
    go_ret
    exact ⟨rfl, Hba.out⟩
  · have Hk := Lib.hid hk
    have hpb := pieceB2 n s
    rw [hk, hpb]
    clear hk hpb
    go_enter Try.func35, Try.ntmps35
    go_wp2_with fail
    with_reducible refine (bring_any kind 6 _ hk1 hk2 (by decide) (by decide)).mono ?_
    rintro e w' ⟨rfl, rfl⟩
    rw [Hk.out]
    go_wp2_with fail
    rw [show wrap64 (n : Int) = toI n from rfl]
    with_reducible refine (zig_any (toI n) _ (toI_in n).1 (toI_in n).2).mono ?_
    rintro e w' ⟨rfl, rfl⟩
    have hz := zig_lt (toI n) (toI_in n).1 (toI_in n).2
    go_wp2_with fail
    with_reducible refine (size_any (zig (toI n)) _ hz).mono ?_
    rintro e w' ⟨rfl, rfl⟩
    go_wp2
    go_ret
    exact ⟨rfl, Hba.out⟩
  · have Hk := Lib.hid hk
    have hpb := pieceB3 n s
    rw [hk, hpb]
    clear hk hpb
    have hcl : (clipT s).size ≤ 40 := clipT_size s
    have hll := leb_le (clipT s).size
    have Hlen := Lib.hid (show ((textB (clipT s)).length : Int) = ((leb (clipT s).size).length : Int) + ((clipT s).size : Int) from by unfold textB; rw [List.length_append, bts_size]; omega)
    rw [Hlen.out]
    clear Hlen
    go_enter Try.func35, Try.ntmps35
    go_wp2_with fail
    with_reducible refine (bring_any kind 6 _ hk1 hk2 (by decide) (by decide)).mono ?_
    rintro e w' ⟨rfl, rfl⟩
    rw [Hk.out]
    go_wp2
    have HL := Lib.hid (show ∀ w' : World, w'.cell? ⟨w.heap.size, 2, none⟩ = some (.string s) → w'.cell? ⟨w.heap.size, 2, none⟩ = some (.string s) from fun _ h => h)
    have hS : (w.alloc (.cells #[.int .i64 kind, .int .u64 (n : Int), .string s] 30)).drew.cell? ⟨w.heap.size, 2, none⟩ = some (.string s) := (Blk.new w 30 #[.int .i64 kind, .int .u64 (n : Int), .string s]).cell 2
    refine wp_region_keep (fun w' : World => w'.cell? ⟨w.heap.size, 2, none⟩ = some (.string s)) [(0, false), (1, false), (6, false), (7, false), (2, true), (3, false), (4, false), (5, true), (8, true), (9, false), (10, false), (11, false)] (by kernel_rfl) (by kernel_rfl) (by kernel_rfl) (fun d _ _ _ _ h => by cases d <;> exact h) ?_
    refine held_pure (v := ?_) rfl rfl (by simp [Region.wanted, yielded]) hS ?_ ?_
    rotate_left
    · intro w hw; go_simp; try with_reducible rfl
    try simp only [Act.put, List.setIfInBounds_toArray, List.set_cons_succ, List.set_cons_zero]
    refine held_pure (v := ?_) rfl rfl (by simp [Region.wanted, yielded]) hS ?_ ?_
    rotate_left
    · intro w hw; have c0 := HL.out w hw; clear hw; go_simp; try with_reducible rfl
    try simp only [Act.put, List.setIfInBounds_toArray, List.set_cons_succ, List.set_cons_zero]
    refine held_pure (v := ?_) rfl rfl (by simp [Region.wanted, yielded]) hS ?_ ?_
    rotate_left
    · intro w hw; go_simp; try with_reducible rfl
    try simp only [Act.put, List.setIfInBounds_toArray, List.set_cons_succ, List.set_cons_zero]
    refine held_pure (v := ?_) rfl rfl (by simp [Region.wanted, yielded]) hS ?_ ?_
    rotate_left
    · intro w hw; have c0 := HL.out w hw; clear hw; go_simp; try with_reducible rfl
    try simp only [Act.put, List.setIfInBounds_toArray, List.set_cons_succ, List.set_cons_zero]
    refine held_eff1 rfl (by simp [Region.wanted, yielded]) fun K hK => ?_
    go_simp
    with_reducible refine (clip_any s _ Hs.out).mono ?_
    rintro e w' ⟨rfl, rfl⟩
    refine held_go hK (by exact hS) fun hS => ?_
    clear hK K
    try simp only [Act.put, List.setIfInBounds_toArray, List.set_cons_succ, List.set_cons_zero]
    refine held_pure (v := ?_) rfl rfl (by simp [Region.wanted, yielded]) hS ?_ ?_
    rotate_left
    · intro w hw; go_simp; try with_reducible rfl
    try simp only [Act.put, List.setIfInBounds_toArray, List.set_cons_succ, List.set_cons_zero]
    refine held_pure (v := ?_) rfl rfl (by simp [Region.wanted, yielded]) hS ?_ ?_
    rotate_left
    · intro w hw; go_simp; try with_reducible rfl
    try simp only [Act.put, List.setIfInBounds_toArray, List.set_cons_succ, List.set_cons_zero]
    refine held_eff1 rfl (by simp [Region.wanted, yielded]) fun K hK => ?_
    go_simp
    rw [u64_wrap3 (clipT s).size (by omega)]
    with_reducible refine (size_any (clipT s).size _ (by omega)).mono ?_
    rintro e w' ⟨rfl, rfl⟩
    refine held_go hK (by exact hS) fun hS => ?_
    clear hK K
    try simp only [Act.put, List.setIfInBounds_toArray, List.set_cons_succ, List.set_cons_zero]
    refine held_eff1 rfl (by simp [Region.wanted, yielded]) fun K hK => ?_
    go_simp
    with_reducible refine (clip_any s _ Hs.out).mono ?_
    rintro e w' ⟨rfl, rfl⟩
    refine held_go hK (by exact hS) fun hS => ?_
    clear hK K
    try simp only [Act.put, List.setIfInBounds_toArray, List.set_cons_succ, List.set_cons_zero]
    refine held_pure (v := ?_) rfl rfl (by simp [Region.wanted, yielded]) hS ?_ ?_
    rotate_left
    · intro w hw; go_simp; try with_reducible rfl
    try simp only [Act.put, List.setIfInBounds_toArray, List.set_cons_succ, List.set_cons_zero]
    refine held_pure (v := ?_) rfl rfl (by simp [Region.wanted, yielded]) hS ?_ ?_
    rotate_left
    · intro w hw; go_simp; try with_reducible rfl
    try simp only [Act.put, List.setIfInBounds_toArray, List.set_cons_succ, List.set_cons_zero]
    refine held_pure (v := ?_) rfl rfl (by simp [Region.wanted, yielded]) hS ?_ ?_
    rotate_left
    · intro w hw; go_simp; try with_reducible rfl
    try simp only [Act.put, List.setIfInBounds_toArray, List.set_cons_succ, List.set_cons_zero]
    refine held_end ?_
    clear hS
    go_wp2
    go_ret
    exact ⟨congrArg (fun x => Ending.returned (Value.int .i64 x)) (i64_wrap_in _ (by omega) (by omega)), Hba.out.drew⟩
  · have Hk := Lib.hid hk
    have hpb := pieceB4 n s
    rw [hk, hpb]
    clear hk hpb
    have hcl : (clipT s).size ≤ 40 := clipT_size s
    rw [bts_size]
    go_enter Try.func35, Try.ntmps35
    go_wp2_with fail
    with_reducible refine (bring_any kind 6 _ hk1 hk2 (by decide) (by decide)).mono ?_
    rintro e w' ⟨rfl, rfl⟩
    rw [Hk.out]
    go_wp2_with fail
    with_reducible refine (clip_any s _ Hs.out).mono ?_
    rintro e w' ⟨rfl, rfl⟩
    go_wp2
    go_ret
    exact ⟨rfl, Hba.out⟩
  · have Hk := Lib.hid hk
    have hpb := pieceB5 n s
    rw [hk, hpb]
    clear hk hpb
    go_enter Try.func35, Try.ntmps35
    go_wp2_with fail
    with_reducible refine (bring_any kind 6 _ hk1 hk2 (by decide) (by decide)).mono ?_
    rintro e w' ⟨rfl, rfl⟩
    rw [Hk.out]
    go_wp2
    go_ret
    exact ⟨rfl, Hba.out⟩
set_option maxRecDepth 100000 in
set_option maxHeartbeats 2000000 in
theorem ptakes_any (g : Nat) (xs : List UInt8) (p e : Nat) (kind : Int) (n : Nat) (s : ByteArray) (w : World) (h : PRd w g xs p e) (hl : xs.length ≤ 1099511627776) (hk1 : -9223372036854775808 ≤ kind) (hk2 : kind ≤ 9223372036854775807) (hn : n < 18446744073709551616) (hs : s.size ≤ maxLen) :
    Calls Try.prog 36 #[.pointer (some ⟨g, 0, none⟩), .agg #[.int .i64 kind, .int .u64 (n : Int), .string s]] w (Asked g xs (.bool (takeA xs p e (kind % 6) n s).1) (takeA xs p e (kind % 6) n s).2.1 (takeA xs p e (kind % 6) n s).2.2 w) := by
  have hk : kind % 6 = 0 ∨ kind % 6 = 1 ∨ kind % 6 = 2 ∨ kind % 6 = 3 ∨ kind % 6 = 4 ∨ kind % 6 = 5 := by omega
  have hglt := h.lt
  have hba : Below w.heap.size w (w.alloc (.cells #[.int .i64 kind, .int .u64 (n : Int), .string s] 30)) := (Below.refl _ _).alloc (Nat.le_refl _) _
  have Hg0 := Lib.hid (below_grown (r := some g) (hba.trans (Below.refl w.heap.size _).drew))
  have H1 := Lib.hid ((h.on hba).on (Below.refl _ _).drew)
  have Hn := Lib.hid hn
  have Hs := Lib.hid hs
  clear h hs hba
  rcases hk with hk | hk | hk | hk | hk | hk
  · have Hk := Lib.hid hk
    rw [hk]
    clear hk
    unfold takeA
    rw [if_pos rfl]
    have hcall := fun w1 (hw : PRd w1 g xs p e) => pbyte_any g xs p e w1 hw hl
    unfold Asked at hcall
    generalize byteA xs p e = r at *
    have Hcall := Lib.hid hcall
    clear hcall
    go_enter Try.func36, Try.ntmps36
    go_wp2_with fail
    with_reducible refine (bring_any kind 6 _ hk1 hk2 (by decide) (by decide)).mono ?_
    rintro e w' ⟨rfl, rfl⟩
    rw [Hk.out]
    go_wp2
    have HL := Lib.hid (show ∀ w' : World, w'.cell? ⟨w.heap.size, 1, none⟩ = some (.int .u64 (n : Int)) → w'.cell? ⟨w.heap.size, 1, none⟩ = some (.int .u64 (n : Int)) from fun _ h => h)
    have hS : (w.alloc (.cells #[.int .i64 kind, .int .u64 (n : Int), .string s] 30)).drew.cell? ⟨w.heap.size, 1, none⟩ = some (.int .u64 (n : Int)) := (Blk.new w 30 #[.int .i64 kind, .int .u64 (n : Int), .string s]).cell 1
    refine wp_region_keep (fun w' : World => w'.cell? ⟨w.heap.size, 1, none⟩ = some (.int .u64 (n : Int))) [(0, false), (2, false), (3, false), (4, false), (1, true), (5, false), (6, false)] (by kernel_rfl) (by kernel_rfl) (by kernel_rfl) (fun d _ _ _ _ h => by cases d <;> exact h) ?_
    refine held_pure (v := ?_) rfl rfl (by simp [Region.wanted, yielded]) hS ?_ ?_
    rotate_left
    · intro w hw; go_simp; try with_reducible rfl
    try simp only [Act.put, List.setIfInBounds_toArray, List.set_cons_succ, List.set_cons_zero]
    refine held_pure (v := ?_) rfl rfl (by simp [Region.wanted, yielded]) hS ?_ ?_
    rotate_left
    · intro w hw; go_simp; try with_reducible rfl
    try simp only [Act.put, List.setIfInBounds_toArray, List.set_cons_succ, List.set_cons_zero]
    refine held_pure (v := ?_) rfl rfl (by simp [Region.wanted, yielded]) hS ?_ ?_
    rotate_left
    · intro w hw; have c0 := HL.out w hw; clear hw; go_simp; try with_reducible rfl
    try simp only [Act.put, List.setIfInBounds_toArray, List.set_cons_succ, List.set_cons_zero]
    refine held_pure (v := ?_) rfl rfl (by simp [Region.wanted, yielded]) hS ?_ ?_
    rotate_left
    · intro w hw; go_simp; try with_reducible rfl
    try simp only [Act.put, List.setIfInBounds_toArray, List.set_cons_succ, List.set_cons_zero]
    refine held_eff1 rfl (by simp [Region.wanted, yielded]) fun K hK => ?_
    go_simp
    with_reducible refine (Hcall.out _ H1.out).mono ?_
    rintro e' w2 ⟨rfl, hg, hp⟩
    refine held_go hK (by exact hg.cell hS (by simp; omega)) fun hS => ?_
    clear hK K
    try simp only [Act.put, List.setIfInBounds_toArray, List.set_cons_succ, List.set_cons_zero]
    refine held_pure (v := ?_) rfl rfl (by simp [Region.wanted, yielded]) hS ?_ ?_
    rotate_left
    · intro w hw; go_simp; try with_reducible rfl
    try simp only [Act.put, List.setIfInBounds_toArray, List.set_cons_succ, List.set_cons_zero]
    refine held_pure (v := ?_) rfl rfl (by simp [Region.wanted, yielded]) hS ?_ ?_
    rotate_left
    · intro w hw; go_simp; try with_reducible rfl
    try simp only [Act.put, List.setIfInBounds_toArray, List.set_cons_succ, List.set_cons_zero]
    refine held_end ?_
    clear hS
    go_wp2
    go_ret
    exact ⟨rfl, Hg0.out.trans hg, hp⟩
  · have Hk := Lib.hid hk
    rw [hk]
    clear hk
    unfold takeA
    rw [if_neg (by decide), if_pos rfl]
    have hcall := fun w1 (hw : PRd w1 g xs p e) => pvar_any g xs p e w1 hw (by omega)
    unfold Asked at hcall
    generalize varA xs p e = r at *
    have Hcall := Lib.hid hcall
    clear hcall
    go_enter Try.func36, Try.ntmps36
    go_wp2_with fail
    with_reducible refine (bring_any kind 6 _ hk1 hk2 (by decide) (by decide)).mono ?_
    rintro e w' ⟨rfl, rfl⟩
    rw [Hk.out]
    go_wp2
    have HL := Lib.hid (show ∀ w' : World, w'.cell? ⟨w.heap.size, 1, none⟩ = some (.int .u64 (n : Int)) → w'.cell? ⟨w.heap.size, 1, none⟩ = some (.int .u64 (n : Int)) from fun _ h => h)
    have hS : (w.alloc (.cells #[.int .i64 kind, .int .u64 (n : Int), .string s] 30)).drew.cell? ⟨w.heap.size, 1, none⟩ = some (.int .u64 (n : Int)) := (Blk.new w 30 #[.int .i64 kind, .int .u64 (n : Int), .string s]).cell 1
    refine wp_region_keep (fun w' : World => w'.cell? ⟨w.heap.size, 1, none⟩ = some (.int .u64 (n : Int))) [(0, false), (2, false), (3, false), (1, true), (4, false), (5, false)] (by kernel_rfl) (by kernel_rfl) (by kernel_rfl) (fun d _ _ _ _ h => by cases d <;> exact h) ?_
    refine held_pure (v := ?_) rfl rfl (by simp [Region.wanted, yielded]) hS ?_ ?_
    rotate_left
    · intro w hw; go_simp; try with_reducible rfl
    try simp only [Act.put, List.setIfInBounds_toArray, List.set_cons_succ, List.set_cons_zero]
    refine held_pure (v := ?_) rfl rfl (by simp [Region.wanted, yielded]) hS ?_ ?_
    rotate_left
    · intro w hw; go_simp; try with_reducible rfl
    try simp only [Act.put, List.setIfInBounds_toArray, List.set_cons_succ, List.set_cons_zero]
    refine held_pure (v := ?_) rfl rfl (by simp [Region.wanted, yielded]) hS ?_ ?_
    rotate_left
    · intro w hw; have c0 := HL.out w hw; clear hw; go_simp; try with_reducible rfl
    try simp only [Act.put, List.setIfInBounds_toArray, List.set_cons_succ, List.set_cons_zero]
    refine held_eff1 rfl (by simp [Region.wanted, yielded]) fun K hK => ?_
    go_simp
    with_reducible refine (Hcall.out _ H1.out).mono ?_
    rintro e' w2 ⟨rfl, hg, hp⟩
    refine held_go hK (by exact hg.cell hS (by simp; omega)) fun hS => ?_
    clear hK K
    try simp only [Act.put, List.setIfInBounds_toArray, List.set_cons_succ, List.set_cons_zero]
    refine held_pure (v := ?_) rfl rfl (by simp [Region.wanted, yielded]) hS ?_ ?_
    rotate_left
    · intro w hw; go_simp; try with_reducible rfl
    try simp only [Act.put, List.setIfInBounds_toArray, List.set_cons_succ, List.set_cons_zero]
    refine held_pure (v := ?_) rfl rfl (by simp [Region.wanted, yielded]) hS ?_ ?_
    rotate_left
    · intro w hw; go_simp; try with_reducible rfl
    try simp only [Act.put, List.setIfInBounds_toArray, List.set_cons_succ, List.set_cons_zero]
    refine held_end ?_
    clear hS
    go_wp2
    go_ret
    exact ⟨rfl, Hg0.out.trans hg, hp⟩
  · have Hk := Lib.hid hk
    rw [hk]
    clear hk
    unfold takeA
    rw [if_neg (by decide), if_neg (by decide), if_pos rfl]
    have hcall := fun w1 (hw : PRd w1 g xs p e) => pint_any g xs p e w1 hw (by omega)
    unfold Asked at hcall
    generalize varA xs p e = r at *
    have Hcall := Lib.hid hcall
    clear hcall
    go_enter Try.func36, Try.ntmps36
    go_wp2_with fail
    with_reducible refine (bring_any kind 6 _ hk1 hk2 (by decide) (by decide)).mono ?_
    rintro e w' ⟨rfl, rfl⟩
    rw [Hk.out]
    go_wp2
    have HL := Lib.hid (show ∀ w' : World, w'.cell? ⟨w.heap.size, 1, none⟩ = some (.int .u64 (n : Int)) → w'.cell? ⟨w.heap.size, 1, none⟩ = some (.int .u64 (n : Int)) from fun _ h => h)
    have hS : (w.alloc (.cells #[.int .i64 kind, .int .u64 (n : Int), .string s] 30)).drew.cell? ⟨w.heap.size, 1, none⟩ = some (.int .u64 (n : Int)) := (Blk.new w 30 #[.int .i64 kind, .int .u64 (n : Int), .string s]).cell 1
    refine wp_region_keep (fun w' : World => w'.cell? ⟨w.heap.size, 1, none⟩ = some (.int .u64 (n : Int))) [(0, false), (2, false), (3, false), (4, false), (1, true), (5, false), (6, false)] (by kernel_rfl) (by kernel_rfl) (by kernel_rfl) (fun d _ _ _ _ h => by cases d <;> exact h) ?_
    refine held_pure (v := ?_) rfl rfl (by simp [Region.wanted, yielded]) hS ?_ ?_
    rotate_left
    · intro w hw; go_simp; try with_reducible rfl
    try simp only [Act.put, List.setIfInBounds_toArray, List.set_cons_succ, List.set_cons_zero]
    refine held_pure (v := ?_) rfl rfl (by simp [Region.wanted, yielded]) hS ?_ ?_
    rotate_left
    · intro w hw; go_simp; try with_reducible rfl
    try simp only [Act.put, List.setIfInBounds_toArray, List.set_cons_succ, List.set_cons_zero]
    refine held_pure (v := ?_) rfl rfl (by simp [Region.wanted, yielded]) hS ?_ ?_
    rotate_left
    · intro w hw; have c0 := HL.out w hw; clear hw; go_simp; try with_reducible rfl
    try simp only [Act.put, List.setIfInBounds_toArray, List.set_cons_succ, List.set_cons_zero]
    refine held_pure (v := ?_) rfl rfl (by simp [Region.wanted, yielded]) hS ?_ ?_
    rotate_left
    · intro w hw; go_simp; try with_reducible rfl
    try simp only [Act.put, List.setIfInBounds_toArray, List.set_cons_succ, List.set_cons_zero]
    refine held_eff1 rfl (by simp [Region.wanted, yielded]) fun K hK => ?_
    go_simp
    with_reducible refine (Hcall.out _ H1.out).mono ?_
    rintro e' w2 ⟨rfl, hg, hp⟩
    refine held_go hK (by exact hg.cell hS (by simp; omega)) fun hS => ?_
    clear hK K
    try simp only [Act.put, List.setIfInBounds_toArray, List.set_cons_succ, List.set_cons_zero]
    refine held_pure (v := ?_) rfl rfl (by simp [Region.wanted, yielded]) hS ?_ ?_
    rotate_left
    · intro w hw; go_simp; try with_reducible rfl
    try simp only [Act.put, List.setIfInBounds_toArray, List.set_cons_succ, List.set_cons_zero]
    refine held_pure (v := ?_) rfl rfl (by simp [Region.wanted, yielded]) hS ?_ ?_
    rotate_left
    · intro w hw; go_simp; try with_reducible rfl
    try simp only [Act.put, List.setIfInBounds_toArray, List.set_cons_succ, List.set_cons_zero]
    refine held_end ?_
    clear hS
    go_wp2
    go_ret
    exact ⟨congrArg (fun x => Ending.returned (Value.bool (zag r.1 == x))) (toI_wrap n), Hg0.out.trans hg, hp⟩
  · have Hk := Lib.hid hk
    rw [hk]
    clear hk
    unfold takeA
    rw [if_neg (by decide), if_neg (by decide), if_neg (by decide), if_pos rfl]
    have hcall := fun w1 (hw : PRd w1 g xs p e) => ptext_any g xs p e 40 w1 hw hl (by omega)
    unfold Asked at hcall
    generalize textA xs p e 40 = r at *
    have Hcall := Lib.hid hcall
    clear hcall
    go_enter Try.func36, Try.ntmps36
    go_wp2_with fail
    with_reducible refine (bring_any kind 6 _ hk1 hk2 (by decide) (by decide)).mono ?_
    rintro e w' ⟨rfl, rfl⟩
    rw [Hk.out]
    go_wp2
    have HL := Lib.hid (show ∀ w' : World, w'.cell? ⟨w.heap.size, 2, none⟩ = some (.string s) → w'.cell? ⟨w.heap.size, 2, none⟩ = some (.string s) from fun _ h => h)
    have hS : (w.alloc (.cells #[.int .i64 kind, .int .u64 (n : Int), .string s] 30)).drew.cell? ⟨w.heap.size, 2, none⟩ = some (.string s) := (Blk.new w 30 #[.int .i64 kind, .int .u64 (n : Int), .string s]).cell 2
    refine wp_region_keep (fun w' : World => w'.cell? ⟨w.heap.size, 2, none⟩ = some (.string s)) [(0, false), (2, false), (3, false), (1, true), (4, true), (5, false), (6, false)] (by kernel_rfl) (by kernel_rfl) (by kernel_rfl) (fun d _ _ _ _ h => by cases d <;> exact h) ?_
    refine held_pure (v := ?_) rfl rfl (by simp [Region.wanted, yielded]) hS ?_ ?_
    rotate_left
    · intro w hw; go_simp; try with_reducible rfl
    try simp only [Act.put, List.setIfInBounds_toArray, List.set_cons_succ, List.set_cons_zero]
    refine held_pure (v := ?_) rfl rfl (by simp [Region.wanted, yielded]) hS ?_ ?_
    rotate_left
    · intro w hw; go_simp; try with_reducible rfl
    try simp only [Act.put, List.setIfInBounds_toArray, List.set_cons_succ, List.set_cons_zero]
    refine held_pure (v := ?_) rfl rfl (by simp [Region.wanted, yielded]) hS ?_ ?_
    rotate_left
    · intro w hw; have c0 := HL.out w hw; clear hw; go_simp; try with_reducible rfl
    try simp only [Act.put, List.setIfInBounds_toArray, List.set_cons_succ, List.set_cons_zero]
    refine held_eff1 rfl (by simp [Region.wanted, yielded]) fun K hK => ?_
    go_simp
    with_reducible refine (Hcall.out _ H1.out).mono ?_
    rintro e' w2 ⟨rfl, hg, hp⟩
    refine held_go hK (by exact hg.cell hS (by simp; omega)) fun hS => ?_
    clear hK K
    try simp only [Act.put, List.setIfInBounds_toArray, List.set_cons_succ, List.set_cons_zero]
    refine held_eff1 rfl (by simp [Region.wanted, yielded]) fun K hK => ?_
    go_simp
    with_reducible refine (clip_any s _ Hs.out).mono ?_
    rintro e' w' ⟨rfl, rfl⟩
    refine held_go hK (by exact hS) fun hS => ?_
    clear hK K
    try simp only [Act.put, List.setIfInBounds_toArray, List.set_cons_succ, List.set_cons_zero]
    refine held_pure (v := ?_) rfl rfl (by simp [Region.wanted, yielded]) hS ?_ ?_
    rotate_left
    · intro w hw; go_simp; try with_reducible rfl
    try simp only [Act.put, List.setIfInBounds_toArray, List.set_cons_succ, List.set_cons_zero]
    refine held_pure (v := ?_) rfl rfl (by simp [Region.wanted, yielded]) hS ?_ ?_
    rotate_left
    · intro w hw; go_simp; try with_reducible rfl
    try simp only [Act.put, List.setIfInBounds_toArray, List.set_cons_succ, List.set_cons_zero]
    refine held_end ?_
    clear hS
    go_wp2
    go_ret
    exact ⟨congrArg (fun x => Ending.returned (Value.bool x)) (text_eqb _ _), Hg0.out.trans hg, hp⟩
  · have Hk := Lib.hid hk
    rw [hk]
    clear hk
    unfold takeA
    rw [if_neg (by decide), if_neg (by decide), if_neg (by decide), if_neg (by decide), if_pos rfl]
    have hpos := rawA_len xs p e (clipT s).size
    have hcs := clipT_size s
    have hcall := fun w1 (hw : PRd w1 g xs p e) => praw_any g xs p e ((clipT s).size : Int) w1 hw hl
    unfold RawP at hcall
    generalize rawA xs p e ((clipT s).size : Int) = r at *
    obtain ⟨l, p2, e2⟩ := r
    simp only [] at hcall hpos
    obtain ⟨m, hm⟩ : ∃ m, l.length = m := ⟨_, rfl⟩
    rw [hm] at hcall hpos
    clear hm hpos
    have Hcall := Lib.hid hcall
    clear hcall
    go_enter Try.func36, Try.ntmps36
    go_wp2_with fail
    with_reducible refine (bring_any kind 6 _ hk1 hk2 (by decide) (by decide)).mono ?_
    rintro e w' ⟨rfl, rfl⟩
    rw [Hk.out]
    go_wp2
    have HL := Lib.hid (show ∀ w' : World, w'.cell? ⟨w.heap.size, 2, none⟩ = some (.string s) → w'.cell? ⟨w.heap.size, 2, none⟩ = some (.string s) from fun _ h => h)
    have hS : (w.alloc (.cells #[.int .i64 kind, .int .u64 (n : Int), .string s] 30)).drew.cell? ⟨w.heap.size, 2, none⟩ = some (.string s) := (Blk.new w 30 #[.int .i64 kind, .int .u64 (n : Int), .string s]).cell 2
    refine wp_region_plan (fun w' : World => w'.cell? ⟨w.heap.size, 2, none⟩ = some (.string s)) (.pure 0 (.pure 1 (.pure 2 (.pure 7 (.pure 8 (.eff 3 (.pure 4 (.eff 5 (.fork 6 9 (.eff 9 (.pure 10 (.pure 11 .done))) (.eff 6 (.pure 10 (.pure 11 .done)))))))))))) (by kernel_rfl) (by kernel_rfl) (by kernel_rfl) (fun d _ _ _ _ h => by cases d <;> exact h) ?_
    refine plan_pure (v := ?_) rfl rfl (by simp [Region.wanted, yielded]) hS ?_ ?_
    rotate_left
    · intro w hw; go_simp; try with_reducible rfl
    try simp only [Act.put, List.setIfInBounds_toArray, List.set_cons_succ, List.set_cons_zero]
    refine plan_pure (v := ?_) rfl rfl (by simp [Region.wanted, yielded]) hS ?_ ?_
    rotate_left
    · intro w hw; go_simp; try with_reducible rfl
    try simp only [Act.put, List.setIfInBounds_toArray, List.set_cons_succ, List.set_cons_zero]
    refine plan_pure (v := ?_) rfl rfl (by simp [Region.wanted, yielded]) hS ?_ ?_
    rotate_left
    · intro w hw; have c0 := HL.out w hw; clear hw; go_simp; try with_reducible rfl
    try simp only [Act.put, List.setIfInBounds_toArray, List.set_cons_succ, List.set_cons_zero]
    refine plan_pure (v := ?_) rfl rfl (by simp [Region.wanted, yielded]) hS ?_ ?_
    rotate_left
    · intro w hw; go_simp; try with_reducible rfl
    try simp only [Act.put, List.setIfInBounds_toArray, List.set_cons_succ, List.set_cons_zero]
    refine plan_pure (v := ?_) rfl rfl (by simp [Region.wanted, yielded]) hS ?_ ?_
    rotate_left
    · intro w hw; have c0 := HL.out w hw; clear hw; go_simp; try with_reducible rfl
    try simp only [Act.put, List.setIfInBounds_toArray, List.set_cons_succ, List.set_cons_zero]
    refine plan_eff1 rfl (by simp [Region.wanted, yielded]) fun K hK => ?_
    go_simp
    with_reducible refine (clip_any s _ Hs.out).mono ?_
    rintro e' w' ⟨rfl, rfl⟩
    refine held_go hK (by exact hS) fun hS => ?_
    clear hK K
    try simp only [Act.put, List.setIfInBounds_toArray, List.set_cons_succ, List.set_cons_zero]
    refine plan_pure (v := ?_) rfl rfl (by simp [Region.wanted, yielded]) hS ?_ ?_
    rotate_left
    · intro w hw; go_simp; try with_reducible rfl
    try simp only [Act.put, List.setIfInBounds_toArray, List.set_cons_succ, List.set_cons_zero]
    refine plan_eff1 rfl (by simp [Region.wanted, yielded]) fun K hK => ?_
    go_simp
    with_reducible refine (Hcall.out _ H1.out).mono ?_
    rintro e' w2 ⟨A, c, rfl, g1, g2, o1, hg, hp⟩
    have hC := run_bytes_string w2 32 9 5 Try.underlying32 Try.underlying5 Try.underlying9 _ A m c _ (own_reads o1)
    change _ = Result.ok (Value.string (txt l)) w2 at hC
    refine held_go hK (by exact hg.cell hS (by simp; omega)) fun hS => ?_
    clear hK K
    try simp only [Act.put, List.setIfInBounds_toArray, List.set_cons_succ, List.set_cons_zero]
    have Hg2 := Lib.hid (Hg0.out.trans hg)
    clear hg
    refine plan_fork ?_ ?_
    · refine plan_eff1 rfl (by simp [Region.wanted, yielded]) fun K hK => ?_
      go_simp
      refine held_go hK (by exact hS) fun hS => ?_
      clear hK K
      try simp only [Act.put, List.setIfInBounds_toArray, List.set_cons_succ, List.set_cons_zero]
      refine plan_eff1 rfl (by simp [Region.wanted, yielded]) fun K hK => ?_
      go_simp
      with_reducible refine (clip_any s _ Hs.out).mono ?_
      rintro e' w' ⟨rfl, rfl⟩
      refine held_go hK (by exact hS) fun hS => ?_
      clear hK K
      try simp only [Act.put, List.setIfInBounds_toArray, List.set_cons_succ, List.set_cons_zero]
      refine plan_pure (v := ?_) rfl rfl (by simp [Region.wanted, yielded]) hS ?_ ?_
      rotate_left
      · intro w hw; go_simp; try with_reducible rfl
      try simp only [Act.put, List.setIfInBounds_toArray, List.set_cons_succ, List.set_cons_zero]
      refine plan_pure (v := ?_) rfl rfl (by simp [Region.wanted, yielded]) hS ?_ ?_
      rotate_left
      · intro w hw; go_simp; try with_reducible rfl
      try simp only [Act.put, List.setIfInBounds_toArray, List.set_cons_succ, List.set_cons_zero]
      refine plan_end ?_
      clear hS
      go_wp2
      go_ret
      exact ⟨congrArg (fun x => Ending.returned (Value.bool x)) (text_eqb _ _), Hg2.out, hp⟩
    · refine plan_eff1 rfl (by simp [Region.wanted, yielded]) fun K hK => ?_
      go_simp
      with_reducible refine (clip_any s _ Hs.out).mono ?_
      rintro e' w' ⟨rfl, rfl⟩
      refine held_go hK (by exact hS) fun hS => ?_
      clear hK K
      try simp only [Act.put, List.setIfInBounds_toArray, List.set_cons_succ, List.set_cons_zero]
      refine plan_eff1 rfl (by simp [Region.wanted, yielded]) fun K hK => ?_
      go_simp
      refine held_go hK (by exact hS) fun hS => ?_
      clear hK K
      try simp only [Act.put, List.setIfInBounds_toArray, List.set_cons_succ, List.set_cons_zero]
      refine plan_pure (v := ?_) rfl rfl (by simp [Region.wanted, yielded]) hS ?_ ?_
      rotate_left
      · intro w hw; go_simp; try with_reducible rfl
      try simp only [Act.put, List.setIfInBounds_toArray, List.set_cons_succ, List.set_cons_zero]
      refine plan_pure (v := ?_) rfl rfl (by simp [Region.wanted, yielded]) hS ?_ ?_
      rotate_left
      · intro w hw; go_simp; try with_reducible rfl
      try simp only [Act.put, List.setIfInBounds_toArray, List.set_cons_succ, List.set_cons_zero]
      refine plan_end ?_
      clear hS
      go_wp2
      go_ret
      exact ⟨congrArg (fun x => Ending.returned (Value.bool x)) (text_eqb _ _), Hg2.out, hp⟩
  · have Hk := Lib.hid hk
    rw [hk]
    clear hk
    unfold takeA
    rw [if_neg (by decide), if_neg (by decide), if_neg (by decide), if_neg (by decide), if_neg (by decide)]
    have hcall := fun w1 (hw : PRd w1 g xs p e) => pword_any g xs p e w1 hw hl
    unfold Asked at hcall
    generalize wordA xs p e = r at *
    have Hcall := Lib.hid hcall
    clear hcall
    go_enter Try.func36, Try.ntmps36
    go_wp2_with fail
    with_reducible refine (bring_any kind 6 _ hk1 hk2 (by decide) (by decide)).mono ?_
    rintro e w' ⟨rfl, rfl⟩
    rw [Hk.out]
    go_wp2
    have HL := Lib.hid (show ∀ w' : World, w'.cell? ⟨w.heap.size, 1, none⟩ = some (.int .u64 (n : Int)) → w'.cell? ⟨w.heap.size, 1, none⟩ = some (.int .u64 (n : Int)) from fun _ h => h)
    have hS : (w.alloc (.cells #[.int .i64 kind, .int .u64 (n : Int), .string s] 30)).drew.cell? ⟨w.heap.size, 1, none⟩ = some (.int .u64 (n : Int)) := (Blk.new w 30 #[.int .i64 kind, .int .u64 (n : Int), .string s]).cell 1
    refine wp_region_keep (fun w' : World => w'.cell? ⟨w.heap.size, 1, none⟩ = some (.int .u64 (n : Int))) [(0, false), (2, false), (3, false), (4, false), (1, true), (5, false), (6, false)] (by kernel_rfl) (by kernel_rfl) (by kernel_rfl) (fun d _ _ _ _ h => by cases d <;> exact h) ?_
    refine held_pure (v := ?_) rfl rfl (by simp [Region.wanted, yielded]) hS ?_ ?_
    rotate_left
    · intro w hw; go_simp; try with_reducible rfl
    try simp only [Act.put, List.setIfInBounds_toArray, List.set_cons_succ, List.set_cons_zero]
    refine held_pure (v := ?_) rfl rfl (by simp [Region.wanted, yielded]) hS ?_ ?_
    rotate_left
    · intro w hw; go_simp; try with_reducible rfl
    try simp only [Act.put, List.setIfInBounds_toArray, List.set_cons_succ, List.set_cons_zero]
    refine held_pure (v := ?_) rfl rfl (by simp [Region.wanted, yielded]) hS ?_ ?_
    rotate_left
    · intro w hw; have c0 := HL.out w hw; clear hw; go_simp; try with_reducible rfl
    try simp only [Act.put, List.setIfInBounds_toArray, List.set_cons_succ, List.set_cons_zero]
    refine held_pure (v := ?_) rfl rfl (by simp [Region.wanted, yielded]) hS ?_ ?_
    rotate_left
    · intro w hw; go_simp; try with_reducible rfl
    try simp only [Act.put, List.setIfInBounds_toArray, List.set_cons_succ, List.set_cons_zero]
    refine held_eff1 rfl (by simp [Region.wanted, yielded]) fun K hK => ?_
    go_simp
    with_reducible refine (Hcall.out _ H1.out).mono ?_
    rintro e' w2 ⟨rfl, hg, hp⟩
    refine held_go hK (by exact hg.cell hS (by simp; omega)) fun hS => ?_
    clear hK K
    try simp only [Act.put, List.setIfInBounds_toArray, List.set_cons_succ, List.set_cons_zero]
    refine held_pure (v := ?_) rfl rfl (by simp [Region.wanted, yielded]) hS ?_ ?_
    rotate_left
    · intro w hw; go_simp; try with_reducible rfl
    try simp only [Act.put, List.setIfInBounds_toArray, List.set_cons_succ, List.set_cons_zero]
    refine held_pure (v := ?_) rfl rfl (by simp [Region.wanted, yielded]) hS ?_ ?_
    rotate_left
    · intro w hw; go_simp; try with_reducible rfl
    try simp only [Act.put, List.setIfInBounds_toArray, List.set_cons_succ, List.set_cons_zero]
    refine held_end ?_
    clear hS
    go_wp2
    go_ret
    exact ⟨rfl, Hg0.out.trans hg, hp⟩
end Go.Proofs.Ytnkkhplddjopnaa
