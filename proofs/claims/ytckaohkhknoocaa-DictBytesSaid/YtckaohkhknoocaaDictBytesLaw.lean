/- The law DictBytes, walked. -/
import Derived.Test.YtckaohkhknoocaaDictLawP
set_option linter.unusedVariables false
set_option linter.unusedSimpArgs false
namespace Go.Proofs.Ytckaohkhknoocaa
open Go.RowKit
/-- The longest of texts. -/
def longL (l : List ByteArray) : Nat := l.foldl (fun m s => max m s.size) 0
theorem longL_take (l : List ByteArray) (k : Nat) (s : ByteArray) (h : l[k]? = some s) : longL (l.take (k + 1)) = max (longL (l.take k)) s.size := by
  rw [List.take_add_one, h]
  simp [longL, List.foldl_append]
theorem longL_le (l : List ByteArray) (M : Nat) (h : ∀ s ∈ l, s.size ≤ M) : longL l ≤ M := by
  have key : ∀ (l : List ByteArray) (a : Nat), (∀ s ∈ l, s.size ≤ M) → a ≤ M → l.foldl (fun m s => max m s.size) a ≤ M := by
    intro l
    induction l with
    | nil => intro a _ h; exact h
    | cons s l ih =>
      intro a h h2
      rw [List.foldl_cons]
      exact ih _ (fun x hx => h x (by simp [hx])) (by have := h s (by simp); omega)
  exact key l 0 h (Nat.zero_le _)
theorem le_longL (l : List ByteArray) : ∀ s ∈ l, s.size ≤ longL l := by
  have key : ∀ (l : List ByteArray) (a : Nat), a ≤ l.foldl (fun m s => max m s.size) a ∧ ∀ s ∈ l, s.size ≤ l.foldl (fun m s => max m s.size) a := by
    intro l
    induction l with
    | nil => intro a; exact ⟨Nat.le_refl _, by simp⟩
    | cons s l ih =>
      intro a
      rw [List.foldl_cons]
      obtain ⟨h1, h2⟩ := ih (max a s.size)
      refine ⟨by omega, fun x hx => ?_⟩
      rcases List.mem_cons.1 hx with rfl | hx
      · omega
      · exact h2 x hx
  exact (key l 0).2
theorem longL_mem (l : List ByteArray) (h : l ≠ []) : ∃ s ∈ l, s.size = longL l := by
  have key : ∀ (l : List ByteArray) (a : Nat), l.foldl (fun m s => max m s.size) a = a ∨ ∃ s ∈ l, s.size = l.foldl (fun m s => max m s.size) a := by
    intro l
    induction l with
    | nil => intro a; exact .inl rfl
    | cons s l ih =>
      intro a
      rw [List.foldl_cons]
      rcases ih (max a s.size) with h | ⟨x, hx, hx2⟩
      · rw [h]
        by_cases hc : a ≤ s.size
        · exact .inr ⟨s, by simp, by omega⟩
        · left; omega
      · exact .inr ⟨x, by simp [hx], hx2⟩
  rcases key l 0 with h0 | ⟨s, hs, hs2⟩
  · obtain ⟨s, r, rfl⟩ := List.exists_cons_of_ne_nil h
    have := le_longL (s :: r) s (by simp)
    unfold longL at this ⊢
    rw [h0] at this ⊢
    exact ⟨s, by simp, by omega⟩
  · exact ⟨s, hs, hs2⟩
/-- What Get answers to what was put. -/
theorem getDI_put (l : List ByteArray) (r : List UInt8) (most : Int) (h : l.length ≤ 60) (hm : ∀ s ∈ l, s.size ≤ 200) :
    getDI (putD l ++ r) (l.length : Int) most = if most < (longL l : Int) ∧ 0 < l.length then .error 5 else .ok (l, (putD l).length) := by
  rw [getDI_ok _ _ _ (by omega)]
  by_cases hc : most < (longL l : Int) ∧ 0 < l.length
  · rw [if_pos hc]
    obtain ⟨s, hs, hs2⟩ := longL_mem l (by intro e; rw [e] at hc; simp at hc)
    exact getN_long l r most (by omega) ⟨s, hs, by omega⟩ (fun s hs => by have := hm s hs; omega)
  · rw [if_neg hc]
    refine getN_put l r most (by omega) (fun s hs => ?_) (fun s hs => by have := hm s hs; omega)
    have := le_longL l s hs
    have hl : 0 < l.length := List.length_pos_of_mem hs
    omega
set_option maxRecDepth 100000 in
set_option maxHeartbeats 2000000 in
theorem dictBytes_walk (A : Option Addr) (l c : Nat) (ts : List ByteArray) (B : Option Addr) (m c2 : Nat) (xs : List UInt8) (most : Int) (w : World) (hr : Reads w w.heap.size 1 A l (txs ts)) (hl : l ≤ c) (hc : c ≤ maxLen) (hz : ∀ s ∈ ts, s.size ≤ maxLen) (hr2 : Reads w w.heap.size 1 B m (u8s xs)) (hl2 : m ≤ c2) (hc2 : c2 ≤ maxLen)
    (hm1 : -9223372036854775808 ≤ most) (hm2 : most ≤ 9223372036854775807) :
    Calls Try.prog 8 #[.slice A l c, .slice B m c2, .int .i64 most] w fun e w' => e = .returned (.bool true) ∧ Below w.heap.size w w' := by
  obtain ⟨i0, hi0, hz0, hz1, hz2⟩ := info_parts u8_info
  obtain ⟨q, ys, -, hcast, hq1, hq2, hry⟩ := cut_head hr2 60 60 rfl
  have hmc : q ≤ c2 := by omega
  have Hz := Lib.hid hz
  have hin := cutTs_len ts
  have Hmax := Lib.hid (cutTs_max ts)
  have Hget := Lib.hid (getDI_put (cutTs ts) ys most hin (cutTs_size ts))
  have Hlong := Lib.hid (longL_le (cutTs ts) 200 (cutTs_size ts))
  have Hsz := Lib.hid (cutTs_size ts)
  have hpl := cutTs_putD ts
  have hc263 : c2 ≤ 9223372036854775807 := by unfold maxLen at hc2; omega
  have Hm1 := Lib.hid hm1
  have Hm2 := Lib.hid hm2
  clear hz hq1 hm1 hm2
  go_enter Try.func8, Try.ntmps8
  go_wp2_with fail
  with_reducible refine (dcut_any A l c ts _ hr hl hc Hz.out).mono ?_
  rintro e w1 ⟨A1, c1, rfl, g1, g2, o1, hb1⟩
  have r1 := own_reads o1
  generalize hil : (cutTs ts).length = il at hin g1 r1 Hget ⊢
  have Hil := Lib.hid hil
  clear hil o1
  generalize hpp : putD (cutTs ts) = p at hpl Hget
  have Hpp := Lib.hid hpp
  generalize hpn : p.length = pn at hpl Hget
  have Hpn := Lib.hid hpn
  clear hpp hpn
  go_wp2_with fail
  with_reducible refine (put_lit A1 il c1 (cutTs ts) p pn _ r1 (by omega) Hmax.out (by omega) Hpp.out Hpn.out).mono ?_
  rintro e w2 ⟨A2, c2', rfl, g3, g4, r2, hb2⟩
  have hil63 : il ≤ 9223372036854775807 := by omega
  go_wp2
  have hS : Below w2.heap.size w2 w2.drew := (Below.refl _ _).drew
  refine wp_region_keep (Below w2.heap.size w2) [(0, false), (2, false), (3, false), (4, false), (5, false), (6, false), (8, false), (9, false), (10, false), (1, true), (7, true), (11, true), (12, false), (13, false), (14, false), (15, false), (16, false), (17, false), (18, false)] (by kernel_rfl) (by kernel_rfl) (by kernel_rfl) (fun d _ _ _ _ h => by cases d <;> exact h) ?_
  refine held_pure (v := ?_) rfl rfl (by simp [Region.wanted, yielded]) hS ?_ ?_
  rotate_left
  · intro w hw; go_simp; try with_reducible rfl
  try simp only [Act.put, List.setIfInBounds_toArray, List.set_cons_succ, List.set_cons_zero]
  refine held_pure (v := ?_) rfl rfl (by simp [Region.wanted, yielded]) hS ?_ ?_
  rotate_left
  · intro w hw; go_simp; try with_reducible rfl
  try simp only [Act.put, List.setIfInBounds_toArray, List.set_cons_succ, List.set_cons_zero]
  refine held_pure (v := ?_) rfl rfl (by simp [Region.wanted, yielded]) hS ?_ ?_
  rotate_left
  · intro w hw; go_simp; try with_reducible rfl
  try simp only [Act.put, List.setIfInBounds_toArray, List.set_cons_succ, List.set_cons_zero]
  refine held_pure (v := ?_) rfl rfl (by simp [Region.wanted, yielded]) hS ?_ ?_
  rotate_left
  · intro w hw; go_simp; try with_reducible rfl
  try simp only [Act.put, List.setIfInBounds_toArray, List.set_cons_succ, List.set_cons_zero]
  refine held_pure (v := ?_) rfl rfl (by simp [Region.wanted, yielded]) hS ?_ ?_
  rotate_left
  · intro w hw; go_simp; try with_reducible rfl
  try simp only [Act.put, List.setIfInBounds_toArray, List.set_cons_succ, List.set_cons_zero]
  refine held_pure (v := ?_) rfl rfl (by simp [Region.wanted, yielded]) hS ?_ ?_
  rotate_left
  · intro w hw; go_simp; try with_reducible rfl
  try simp only [Act.put, List.setIfInBounds_toArray, List.set_cons_succ, List.set_cons_zero]
  refine held_pure (v := ?_) rfl rfl (by simp [Region.wanted, yielded]) hS ?_ ?_
  rotate_left
  · intro w hw; go_simp; try with_reducible rfl
  try simp only [Act.put, List.setIfInBounds_toArray, List.set_cons_succ, List.set_cons_zero]
  refine held_pure (v := ?_) rfl rfl (by simp [Region.wanted, yielded]) hS ?_ ?_
  rotate_left
  · intro w hw; go_simp; try with_reducible rfl
  try simp only [Act.put, List.setIfInBounds_toArray, List.set_cons_succ, List.set_cons_zero]
  refine held_pure (v := ?_) rfl rfl (by simp [Region.wanted, yielded]) hS ?_ ?_
  rotate_left
  · intro w hw; go_simp; try with_reducible rfl
  try simp only [Act.put, List.setIfInBounds_toArray, List.set_cons_succ, List.set_cons_zero]
  refine held_eff1 rfl (by simp [Region.wanted, yielded]) fun K hK => ?_
  go_simp
  with_reducible refine (copyBytes_any A2 pn c2' p _ r2.drew (by omega)).mono ?_
  rintro e w3 ⟨A3, c3, rfl, g5, g6, o3, hb3⟩
  have hbase : w2.heap.size ≤ w3.heap.size := hb3.size
  have hbw : Below w.heap.size w w3 := bon (by repeat (first | exact Below.refl _ _ | assumption | refine bal ?_ _ | refine Below.drew ?_ | refine bon ?_ (by assumption)) : Below w.heap.size w w2.drew) hb3
  have hry3 : Reads w3 w3.heap.size 1 B q (u8s ys) := (hry.below hbw).more hbw.size
  have hs1 : pn + q ≤ maxLen := by simp only [maxLen]; omega
  have hs2 : (pn + q) * 1 ≤ 70368744177664 := by omega
  refine held_go hK (by exact bon hS hb3) fun hS => ?_
  clear hK K
  try simp only [Act.put, List.setIfInBounds_toArray, List.set_cons_succ, List.set_cons_zero]
  refine held_eff1 rfl (by simp [Region.wanted, yielded]) fun K hK => ?_
  refine wp_append_any _ (.tmp 20) (.tmp 25) 23 rfl w2.heap.size 5 i0 (.int .u8 0) 1 1 Try.underlying23 hi0 hz0 hz1 hz2 rfl (by decide) A3 pn c3 _ rfl o3 B q c2 (u8s ys) rfl hry3 (u8s_one ys) hs1 hs2 hbase ?_
  intro A4 c4 w4 o4 hb4 hg4 hc4 hd4
  rw [← u8s_append] at o4
  have r4 := own_reads o4
  refine held_go hK (by exact hS.trans hb4) fun hS => ?_
  clear hK K
  try simp only [Act.put, List.setIfInBounds_toArray, List.set_cons_succ, List.set_cons_zero]
  have hB4 : Below w2.heap.size w2 w4 := hS
  have hr1 : Reads w4 w4.heap.size 1 A1 il (txs (cutTs ts)) := ((r1.on hb2).below hB4).more hB4.size
  have hw4 : Below w.heap.size w w4 := bon (by repeat (first | exact Below.refl _ _ | assumption | refine bal ?_ _ | refine Below.drew ?_ | refine bon ?_ (by assumption)) : Below w.heap.size w w2) hB4
  clear o4 hb4 hg4 hry3 hbw o3
  refine held_eff1 rfl (by simp [Region.wanted, yielded]) fun K hK => ?_
  go_simp
  with_reducible refine (dget_any A4 (pn + q) c4 (p ++ ys) (il : Int) most _ r4 hc4 hd4 (by omega) (by omega) Hm2.out).mono ?_
  rintro e w5 hgot
  rw [Hget.out] at hgot
  by_cases hbad : most < (longL (cutTs ts) : Int) ∧ 0 < il
  · rw [if_pos hbad] at hgot
    obtain ⟨hb5, rfl⟩ := hgot
    refine held_go hK (by exact bon hS hb5) fun hS => ?_
    clear hK K
    try simp only [Act.put, List.setIfInBounds_toArray, List.set_cons_succ, List.set_cons_zero]
    refine held_pure (v := ?_) rfl rfl (by simp [Region.wanted, yielded]) hS ?_ ?_
    rotate_left
    · intro w hw; go_simp; try with_reducible rfl
    try simp only [Act.put, List.setIfInBounds_toArray, List.set_cons_succ, List.set_cons_zero]
    refine held_pure (v := ?_) rfl rfl (by simp [Region.wanted, yielded]) hS ?_ ?_
    rotate_left
    · intro w hw; go_simp; try with_reducible rfl
    try simp only [Act.put, List.setIfInBounds_toArray, List.set_cons_succ, List.set_cons_zero]
    refine held_pure (v := ?_) rfl rfl (by simp [Region.wanted, yielded]) hS ?_ ?_
    rotate_left
    · intro w hw; go_simp; try with_reducible rfl
    try simp only [Act.put, List.setIfInBounds_toArray, List.set_cons_succ, List.set_cons_zero]
    refine held_pure (v := ?_) rfl rfl (by simp [Region.wanted, yielded]) hS ?_ ?_
    rotate_left
    · intro w hw; go_simp; try with_reducible rfl
    try simp only [Act.put, List.setIfInBounds_toArray, List.set_cons_succ, List.set_cons_zero]
    refine held_pure (v := ?_) rfl rfl (by simp [Region.wanted, yielded]) hS ?_ ?_
    rotate_left
    · intro w hw; go_simp; try with_reducible rfl
    try simp only [Act.put, List.setIfInBounds_toArray, List.set_cons_succ, List.set_cons_zero]
    refine held_pure (v := ?_) rfl rfl (by simp [Region.wanted, yielded]) hS ?_ ?_
    rotate_left
    · intro w hw; go_simp; try with_reducible rfl
    try simp only [Act.put, List.setIfInBounds_toArray, List.set_cons_succ, List.set_cons_zero]
    refine held_pure (v := ?_) rfl rfl (by simp [Region.wanted, yielded]) hS ?_ ?_
    rotate_left
    · intro w hw; go_simp; try with_reducible rfl
    try simp only [Act.put, List.setIfInBounds_toArray, List.set_cons_succ, List.set_cons_zero]
    refine held_end ?_
    have hw5 := bon hw4 hb5
    have hr5 := hr1.on hb5
    clear hS hr1 hw4
    go_wp2
    go_loop [12, 13] (fun u i => ∃ k lg : Nat, k ≤ il ∧ u = .int .i64 (lg : Int) ∧ i = .int .i64 (k : Int) ∧ Hid (lg = longL ((cutTs ts).take k)) ∧ lg ≤ 200) (fun _ i => il - (intOf i).toNat)
    case atStart => exact ⟨0, 0, Nat.zero_le _, rfl, rfl, Lib.hid rfl, by omega⟩
    case round =>
      obtain ⟨k, lg, hk, rfl, rfl, hlg, hlg2⟩ := hrel
      by_cases hlt : k < il
      · obtain ⟨ad, v, rfl, hbk, hx, hcell⟩ := hr5.at_ hlt
        obtain ⟨s, hs', rfl⟩ := txs_get _ _ _ hx
        have hstep := longL_take (cutTs ts) k s hs'
        rw [← hlg.out] at hstep
        have hs2 := Hsz.out s (List.mem_of_getElem? hs')
        have hmax : max (lg : Int) (s.size : Int) = (longL ((cutTs ts).take (k + 1)) : Int) := by rw [hstep]; omega
        have hmax2 : longL ((cutTs ts).take (k + 1)) ≤ 200 := by rw [hstep]; omega
        have Hl2 : Hid (longL ((cutTs ts).take (k + 1)) = longL ((cutTs ts).take (k + 1))) := Lib.hid rfl
        generalize hgg : longL ((cutTs ts).take (k + 1)) = lg2 at hmax hmax2
        have Hgg := Lib.hid hgg.symm
        clear hx hs' hstep Hl2 hgg hs2
        go_wp2
        go_round
        case rel => exact ⟨k + 1, lg2, by omega, rfl, by go_num, Hgg, hmax2⟩
        case measure => simp [intOf]; omega
      · have hki : k = il := by omega
        have HL : Hid (longL (cutTs ts) = lg) := Lib.hid (by rw [hlg.out, List.take_of_length_le (by rw [Hil.out]; omega)])
        obtain ⟨hbad1, hbad2⟩ := hbad
        have hbad3 : most < (lg : Int) := by rw [← HL.out]; exact hbad1
        clear hbad1
        go_wp2_with fail
        with_reducible refine (dworks_any _).mono ?_
        rintro e w8 ⟨rfl, hb8⟩
        go_wp2
        go_ret
        exact ⟨rfl, bon hw5 hb8⟩
  · rw [if_neg hbad] at hgot
    obtain ⟨hb5, A5, c5, rfl, g7, g8, o5⟩ := hgot
    rw [Hil.out] at g7 o5 ⊢
    have r5 := own_reads o5
    refine held_go hK (by exact bon hS hb5) fun hS => ?_
    clear hK K
    try simp only [Act.put, List.setIfInBounds_toArray, List.set_cons_succ, List.set_cons_zero]
    refine held_pure (v := ?_) rfl rfl (by simp [Region.wanted, yielded]) hS ?_ ?_
    rotate_left
    · intro w hw; go_simp; try with_reducible rfl
    try simp only [Act.put, List.setIfInBounds_toArray, List.set_cons_succ, List.set_cons_zero]
    refine held_pure (v := ?_) rfl rfl (by simp [Region.wanted, yielded]) hS ?_ ?_
    rotate_left
    · intro w hw; go_simp; try with_reducible rfl
    try simp only [Act.put, List.setIfInBounds_toArray, List.set_cons_succ, List.set_cons_zero]
    refine held_pure (v := ?_) rfl rfl (by simp [Region.wanted, yielded]) hS ?_ ?_
    rotate_left
    · intro w hw; go_simp; try with_reducible rfl
    try simp only [Act.put, List.setIfInBounds_toArray, List.set_cons_succ, List.set_cons_zero]
    refine held_pure (v := ?_) rfl rfl (by simp [Region.wanted, yielded]) hS ?_ ?_
    rotate_left
    · intro w hw; go_simp; try with_reducible rfl
    try simp only [Act.put, List.setIfInBounds_toArray, List.set_cons_succ, List.set_cons_zero]
    refine held_pure (v := ?_) rfl rfl (by simp [Region.wanted, yielded]) hS ?_ ?_
    rotate_left
    · intro w hw; go_simp; try with_reducible rfl
    try simp only [Act.put, List.setIfInBounds_toArray, List.set_cons_succ, List.set_cons_zero]
    refine held_pure (v := ?_) rfl rfl (by simp [Region.wanted, yielded]) hS ?_ ?_
    rotate_left
    · intro w hw; go_simp; try with_reducible rfl
    try simp only [Act.put, List.setIfInBounds_toArray, List.set_cons_succ, List.set_cons_zero]
    refine held_pure (v := ?_) rfl rfl (by simp [Region.wanted, yielded]) hS ?_ ?_
    rotate_left
    · intro w hw; go_simp; try with_reducible rfl
    try simp only [Act.put, List.setIfInBounds_toArray, List.set_cons_succ, List.set_cons_zero]
    refine held_end ?_
    have hw5 := bon hw4 hb5
    have hr5 := hr1.on hb5
    clear hS hr1 hw4
    go_wp2
    go_loop [12, 13] (fun u i => ∃ k lg : Nat, k ≤ il ∧ u = .int .i64 (lg : Int) ∧ i = .int .i64 (k : Int) ∧ Hid (lg = longL ((cutTs ts).take k)) ∧ lg ≤ 200) (fun _ i => il - (intOf i).toNat)
    case atStart => exact ⟨0, 0, Nat.zero_le _, rfl, rfl, Lib.hid rfl, by omega⟩
    case round =>
      obtain ⟨k, lg, hk, rfl, rfl, hlg, hlg2⟩ := hrel
      by_cases hlt : k < il
      · obtain ⟨ad, v, rfl, hbk, hx, hcell⟩ := hr5.at_ hlt
        obtain ⟨s, hs', rfl⟩ := txs_get _ _ _ hx
        have hstep := longL_take (cutTs ts) k s hs'
        rw [← hlg.out] at hstep
        have hs2 := Hsz.out s (List.mem_of_getElem? hs')
        have hmax : max (lg : Int) (s.size : Int) = (longL ((cutTs ts).take (k + 1)) : Int) := by rw [hstep]; omega
        have hmax2 : longL ((cutTs ts).take (k + 1)) ≤ 200 := by rw [hstep]; omega
        have Hl2 : Hid (longL ((cutTs ts).take (k + 1)) = longL ((cutTs ts).take (k + 1))) := Lib.hid rfl
        generalize hgg : longL ((cutTs ts).take (k + 1)) = lg2 at hmax hmax2
        have Hgg := Lib.hid hgg.symm
        clear hx hs' hstep Hl2 hgg hs2
        go_wp2
        go_round
        case rel => exact ⟨k + 1, lg2, by omega, rfl, by go_num, Hgg, hmax2⟩
        case measure => simp [intOf]; omega
      · have hki : k = il := by omega
        have HL : Hid (longL (cutTs ts) = lg) := Lib.hid (by rw [hlg.out, List.take_of_length_le (by rw [Hil.out]; omega)])
        have hor : il = 0 ∨ ¬ most < (lg : Int) := by rw [← HL.out]; omega
        clear hbad
        rcases hor with h0 | h0
        · by_cases hlg : most < (lg : Int)
          · have db0 : decide ((0 : Int) < (il : Int)) = false := by simp; omega
            have db1 : decide (0 < il) = false := by simp; omega
            have H0 := Lib.hid h0
            clear h0
            go_wp2_with fail
            with_reducible refine (eqTexts_yes A5 A1 il c5 il c1 (cutTs ts) (cutTs ts) _ r5 hr5 (nat_le_max _ (by omega)) (nat_le_max _ (by omega)) rfl).mono ?_
            rintro e w7 ⟨rfl, hb7⟩
            go_wp2_with fail
            with_reducible refine (dworks_any _).mono ?_
            rintro e w8 ⟨rfl, hb8⟩
            go_wp2
            go_ret
            exact ⟨rfl, bon (bon hw5 hb7) hb8⟩
          · clear h0
            go_wp2_with fail
            with_reducible refine (eqTexts_yes A5 A1 il c5 il c1 (cutTs ts) (cutTs ts) _ r5 hr5 (nat_le_max _ (by omega)) (nat_le_max _ (by omega)) rfl).mono ?_
            rintro e w7 ⟨rfl, hb7⟩
            go_wp2_with fail
            with_reducible refine (dworks_any _).mono ?_
            rintro e w8 ⟨rfl, hb8⟩
            go_wp2
            go_ret
            exact ⟨rfl, bon (bon hw5 hb7) hb8⟩
        · go_wp2_with fail
          with_reducible refine (eqTexts_yes A5 A1 il c5 il c1 (cutTs ts) (cutTs ts) _ r5 hr5 (nat_le_max _ (by omega)) (nat_le_max _ (by omega)) rfl).mono ?_
          rintro e w7 ⟨rfl, hb7⟩
          go_wp2_with fail
          with_reducible refine (dworks_any _).mono ?_
          rintro e w8 ⟨rfl, hb8⟩
          go_wp2
          go_ret
          exact ⟨rfl, bon (bon hw5 hb7) hb8⟩
end Go.Proofs.Ytckaohkhknoocaa
