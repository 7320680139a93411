/- Layer 3, walked: the document's reader: Byte, Word, Var, Int. -/
import Derived.Test.YtnkkhplddjopnaaPackRef2
set_option linter.unusedVariables false
set_option linter.unusedSimpArgs false
namespace Go.Proofs.Ytnkkhplddjopnaa
open Go.RowKit
set_option maxRecDepth 100000 in
set_option maxHeartbeats 400000 in
theorem rdbyte_any (g : Nat) (xs : List UInt8) (p e : Nat) (w : World) (h : RRd w g xs p e) (hl : xs.length ≤ 1099511627776) :
    Calls Try.prog 56 #[.pointer (some ⟨g, 0, none⟩)] w (RAsked g xs (.int .u8 ((byteA xs p e).1 : Int)) (byteA xs p e).2.1 (byteA xs p e).2.2 w) := by
  have hcall := rraw_any2 g xs p e 1 w h hl
  have hpos := rawA_len xs p e 1
  rw [show ((1 : Nat) : Int) = 1 from rfl] at hpos
  unfold RRawP at hcall
  unfold byteA
  clear h
  generalize rawA xs p e 1 = r at *
  obtain ⟨l, p2, e2⟩ := r
  simp only [] at hcall hpos ⊢
  have Hcall := Lib.hid hcall
  clear hcall
  rcases l with _ | ⟨z, l⟩
  · clear hpos
    go_enter Try.func56, Try.ntmps56
    go_wp2_with fail
    with_reducible refine (Hcall.out).mono ?_
    rintro e w2 ⟨A, c, rfl, g1, g2, g3, hg, hp⟩
    clear g3
    go_wp2
    go_ret
    exact ⟨rfl, hg, hp⟩
  · have hl0 : l = [] := by
      cases l with
      | nil => rfl
      | cons => simp at hpos
    subst hl0
    have hcall := Hcall.out
    simp only [List.length_cons, List.length_nil, Nat.zero_add] at hcall
    clear hpos Hcall
    have Hcall := Lib.hid hcall
    clear hcall
    go_enter Try.func56, Try.ntmps56
    go_wp2_with fail
    with_reducible refine (Hcall.out).mono ?_
    rintro e w2 ⟨A, c, rfl, g1, g2, g3, hg, hp⟩
    obtain ⟨g9, rfl, hg9, hg92, hcell, hfz⟩ := own_at g3 (by decide)
    have c0 := hcell 0 _ rfl
    clear g3 hcell hfz
    go_wp2
    go_ret
    exact ⟨rfl, hg, hp⟩
set_option maxRecDepth 100000 in
set_option maxHeartbeats 400000 in
theorem rdvar_any (g : Nat) (xs : List UInt8) (p e : Nat) (w : World) (h : RRd w g xs p e) (hl : xs.length ≤ 1099511627776) :
    Calls Try.prog 57 #[.pointer (some ⟨g, 0, none⟩)] w (RAsked g xs (.int .u64 ((varA xs p e).1 : Int)) (varA xs p e).2.1 (varA xs p e).2.2 w) := by
  have hple := h.1
  have H := Lib.hid h
  have hv : varA xs p e = varA xs p e := rfl
  conv at hv => rhs; unfold varA
  obtain ⟨s1, s2, s3, s4⟩ := get_size3 (xs.drop p)
  have hld : (xs.drop p).length = xs.length - p := List.length_drop
  rw [hld] at s1
  have Hrest := Lib.hid (rrest_any g xs p e w h)
  unfold RestP at Hrest
  have hread := fun (A : Option Addr) (c : Nat) (w1 : World) (hr : Reads w1 w1.heap.size 1 A (xs.length - p) (u8s (xs.drop p))) (h1 : xs.length - p ≤ c) (h2 : c ≤ maxLen) => refGet_any A (xs.length - p) c (xs.drop p) w1 hr h1 h2
  generalize get (xs.drop p) = r at hv s1 s2 s3 s4 hread
  obtain ⟨rn, rk, re⟩ := r
  simp only [gotten] at hv s1 s2 s3 s4 hread
  have Hread := Lib.hid hread
  have Hfail := Lib.hid (fun (ni : Int) (hni : ni = (re : Int)) w1 h1 => rfail_any g xs p e re ni w1 h1 hni)
  unfold RAsked at Hfail
  have hf : (if e = 0 then re else e) = failA e re := rfl
  obtain ⟨q, hq⟩ : ∃ q, p + rk = q := ⟨_, rfl⟩
  have hqs : (p : Int) + (rk : Int) = (q : Int) := by omega
  have hql : q ≤ xs.length := by omega
  have hq63 : q ≤ 9223372036854775807 := by omega
  rw [hq] at hv
  clear h hread hld
  generalize hm : xs.length - p = m at *
  by_cases he : e = 0
  · subst he
    rw [if_neg (by simp)] at hv
    rw [if_pos rfl] at hf
    rw [← hf] at Hfail
    by_cases hre : re = 0
    · subst hre
      rw [if_neg (by simp)] at hv
      have Hv := Lib.hid hv
      clear hv hf s4 hq hm
      go_enter Try.func57, Try.ntmps57
      go_wp2_with fail
      with_reducible refine (Hrest.out).mono ?_
      rintro e w0 ⟨A, c, rfl, g1, g2, g3, hb⟩
      go_wp2_with fail
      with_reducible refine (Hread.out A c _ g3 g1 g2).mono ?_
      rintro e w' ⟨rfl, rfl⟩
      have hp0 := H.out.on hb
      go_wp2_with fail
      with_reducible refine (Hfail.out _ (by simp) _ hp0).mono ?_
      rintro e w1 ⟨rfl, hg, hp⟩
      obtain ⟨d1, d2, f1, f2⟩ := hp.cells
      have hg0 := (below_grown (r := some g) hb).trans hg
      clear g3
      go_wp2
      go_ret
      rw [Hv.out]
      exact ⟨rfl, hg0.trans (grown_set3 _ g 1 _), hp.to q hql⟩
    · rw [if_pos hre] at hv
      have Hv := Lib.hid hv
      have hn1 : ((re : Int) == 0) = false := by simp; omega
      have hn2 : ((re : Int) != 0) = true := by simp; omega
      clear hv hf s4 hq hm hre
      go_enter Try.func57, Try.ntmps57
      go_wp2_with fail
      with_reducible refine (Hrest.out).mono ?_
      rintro e w0 ⟨A, c, rfl, g1, g2, g3, hb⟩
      go_wp2_with fail
      with_reducible refine (Hread.out A c _ g3 g1 g2).mono ?_
      rintro e w' ⟨rfl, rfl⟩
      have hp0 := H.out.on hb
      go_wp2_with fail
      with_reducible refine (Hfail.out _ (by simp) _ hp0).mono ?_
      rintro e w1 ⟨rfl, hg, hp⟩
      obtain ⟨d1, d2, f1, f2⟩ := hp.cells
      have hg0 := (below_grown (r := some g) hb).trans hg
      clear g3
      go_wp2
      go_ret
      rw [Hv.out]
      exact ⟨rfl, hg0, hp⟩
  · rw [if_pos he] at hv
    rw [if_neg he] at hf
    rw [← hf] at Hfail
    have Hv := Lib.hid hv
    have hn1 : ((e : Int) == 0) = false := by simp; omega
    have hn2 : ((e : Int) != 0) = true := by simp; omega
    clear hv hf s4 hq hm he
    go_enter Try.func57, Try.ntmps57
    go_wp2_with fail
    with_reducible refine (Hrest.out).mono ?_
    rintro e w0 ⟨A, c, rfl, g1, g2, g3, hb⟩
    go_wp2_with fail
    with_reducible refine (Hread.out A c _ g3 g1 g2).mono ?_
    rintro e w' ⟨rfl, rfl⟩
    have hp0 := H.out.on hb
    go_wp2_with fail
    with_reducible refine (Hfail.out _ (by simp) _ hp0).mono ?_
    rintro e w1 ⟨rfl, hg, hp⟩
    obtain ⟨d1, d2, f1, f2⟩ := hp.cells
    have hg0 := (below_grown (r := some g) hb).trans hg
    clear g3
    go_wp2
    go_ret
    rw [Hv.out]
    exact ⟨rfl, hg0, hp⟩
set_option maxRecDepth 100000 in
theorem rdint_any (g : Nat) (xs : List UInt8) (p e : Nat) (w : World) (h : RRd w g xs p e) (hl : xs.length ≤ 1099511627776) :
    Calls Try.prog 58 #[.pointer (some ⟨g, 0, none⟩)] w (RAsked g xs (.int .i64 (zag (varA xs p e).1)) (varA xs p e).2.1 (varA xs p e).2.2 w) := by
  have hcall := rdvar_any g xs p e w h hl
  unfold RAsked at hcall
  have hlt : (varA xs p e).1 < 18446744073709551616 := by
    have h3 := (get_size3 (xs.drop p)).2.2.1
    unfold varA
    split
    · exact Nat.zero_lt_succ _
    · split
      · exact Nat.zero_lt_succ _
      · exact h3
  have Hcall := Lib.hid hcall
  have Hlt := Lib.hid hlt
  clear h hcall hlt
  generalize varA xs p e = r at *
  go_enter Try.func58, Try.ntmps58
  go_wp2_with fail
  with_reducible refine (Hcall.out).mono ?_
  rintro e w2 ⟨rfl, hg, hp⟩
  go_wp2_with fail
  with_reducible refine (refZag_any _ _ Hlt.out).mono ?_
  rintro e w3 ⟨rfl, rfl⟩
  go_wp2
  go_ret
  exact ⟨rfl, hg, hp⟩
theorem u32_wrap (x : Int) (h1 : 0 ≤ x) (h2 : x < 4294967296) : IntKind.u32.wrap x = x := by
  simp only [IntKind.wrap, IntKind.signed, IntKind.bits]
  simp
  omega
theorem word_sum (a b c d : UInt8) : IntKind.u32.wrap (IntKind.u32.wrap (IntKind.u32.wrap (IntKind.u32.wrap (a.toNat : Int) + IntKind.u32.wrap (256 * IntKind.u32.wrap (b.toNat : Int))) + IntKind.u32.wrap (65536 * IntKind.u32.wrap (c.toNat : Int))) + IntKind.u32.wrap (16777216 * IntKind.u32.wrap (d.toNat : Int))) = ((wordN [a, b, c, d] : Nat) : Int) := by
  have h1 := a.toNat_lt
  have h2 := b.toNat_lt
  have h3 := c.toNat_lt
  have h4 := d.toNat_lt
  simp only [wordN]
  rw [u32_wrap (a.toNat : Int) (by omega) (by omega), u32_wrap (b.toNat : Int) (by omega) (by omega), u32_wrap (c.toNat : Int) (by omega) (by omega), u32_wrap (d.toNat : Int) (by omega) (by omega),
    u32_wrap (256 * (b.toNat : Int)) (by omega) (by omega), u32_wrap (65536 * (c.toNat : Int)) (by omega) (by omega), u32_wrap (16777216 * (d.toNat : Int)) (by omega) (by omega),
    u32_wrap ((a.toNat : Int) + 256 * (b.toNat : Int)) (by omega) (by omega), u32_wrap ((a.toNat : Int) + 256 * (b.toNat : Int) + 65536 * (c.toNat : Int)) (by omega) (by omega),
    u32_wrap ((a.toNat : Int) + 256 * (b.toNat : Int) + 65536 * (c.toNat : Int) + 16777216 * (d.toNat : Int)) (by omega) (by omega)]
  omega
set_option maxRecDepth 100000 in
set_option maxHeartbeats 400000 in
theorem rdword_any (g : Nat) (xs : List UInt8) (p e : Nat) (w : World) (h : RRd w g xs p e) (hl : xs.length ≤ 1099511627776) :
    Calls Try.prog 61 #[.pointer (some ⟨g, 0, none⟩)] w (RAsked g xs (.int .u32 ((wordA xs p e).1 : Int)) (wordA xs p e).2.1 (wordA xs p e).2.2 w) := by
  have hcall := rraw_any2 g xs p e 4 w h hl
  have hpos := rawA_len xs p e 4
  rw [show ((4 : Nat) : Int) = 4 from rfl] at hpos
  unfold RRawP at hcall
  unfold wordA
  clear h
  generalize rawA xs p e 4 = r at *
  obtain ⟨l, p2, e2⟩ := r
  simp only [] at hcall hpos ⊢
  have Hcall := Lib.hid hcall
  clear hcall
  by_cases hn : l.length = 0
  · have hl0 : l = [] := List.eq_nil_of_length_eq_zero hn
    subst hl0
    clear hpos hn
    go_enter Try.func61, Try.ntmps61
    go_wp2_with fail
    with_reducible refine (Hcall.out).mono ?_
    rintro e w2 ⟨A, c, rfl, g1, g2, g3, hg, hp⟩
    clear g3
    go_wp2
    go_ret
    exact ⟨rfl, hg, hp⟩
  · have h4 : l.length = 4 := by omega
    have hcall := Hcall.out
    rw [h4] at hcall
    clear hpos hn Hcall
    obtain ⟨a, b, c, d, rfl⟩ : ∃ a b c d, l = [a, b, c, d] := by
      rcases l with _ | ⟨a, _ | ⟨b, _ | ⟨c, _ | ⟨d, _ | ⟨x, l⟩⟩⟩⟩⟩ <;> simp at h4
      exact ⟨a, b, c, d, rfl⟩
    have Hcall := Lib.hid hcall
    clear hcall h4
    go_enter Try.func61, Try.ntmps61
    go_wp2_with fail
    with_reducible refine (Hcall.out).mono ?_
    rintro e w2 ⟨A, cc, rfl, g1, g2, g3, hg, hp⟩
    obtain ⟨g9, rfl, hg9, hg92, hcell, hfz⟩ := own_at g3 (by decide)
    have HL0 := Lib.hid (show ∀ w', w' = w2.drew → w'.cell? ⟨g9, 0, none⟩ = some (.int .u8 (a.toNat : Int)) from fun w' h => by rw [h]; exact hcell 0 _ rfl)
    have HL1 := Lib.hid (show ∀ w', w' = w2.drew → w'.cell? ⟨g9, 1, none⟩ = some (.int .u8 (b.toNat : Int)) from fun w' h => by rw [h]; exact hcell 1 _ rfl)
    have HL2 := Lib.hid (show ∀ w', w' = w2.drew → w'.cell? ⟨g9, 2, none⟩ = some (.int .u8 (c.toNat : Int)) from fun w' h => by rw [h]; exact hcell 2 _ rfl)
    have HL3 := Lib.hid (show ∀ w', w' = w2.drew → w'.cell? ⟨g9, 3, none⟩ = some (.int .u8 (d.toNat : Int)) from fun w' h => by rw [h]; exact hcell 3 _ rfl)
    clear g3 hcell hfz
    go_wp2
    have hS : w2.drew = w2.drew := rfl
    refine wp_region_keep (fun w' => w' = w2.drew) [(0, false), (1, false), (2, false), (3, false), (4, false), (5, false), (6, false), (7, false), (8, false), (9, false), (10, false), (11, false), (12, false), (13, false), (14, false), (15, false), (16, false), (17, false), (18, false), (19, false), (20, false), (21, false), (22, false)] (by kernel_rfl) (by kernel_rfl) (by kernel_rfl) (fun d _ _ _ _ h => by cases d <;> exact h) ?_
    refine held_pure (v := ?_) rfl rfl (by simp [Region.wanted, yielded]) hS ?_ ?_
    rotate_left
    · intro w hw; go_simp; try with_reducible rfl
    try simp only [Act.put, List.setIfInBounds_toArray, List.set_cons_succ, List.set_cons_zero]
    refine held_pure (v := ?_) rfl rfl (by simp [Region.wanted, yielded]) hS ?_ ?_
    rotate_left
    · intro w hw; go_simp; try with_reducible rfl
    try simp only [Act.put, List.setIfInBounds_toArray, List.set_cons_succ, List.set_cons_zero]
    refine held_pure (v := ?_) rfl rfl (by simp [Region.wanted, yielded]) hS ?_ ?_
    rotate_left
    · intro w hw; have c0 := HL0.out w hw; clear hw; go_simp; try with_reducible rfl
    try simp only [Act.put, List.setIfInBounds_toArray, List.set_cons_succ, List.set_cons_zero]
    refine held_pure (v := ?_) rfl rfl (by simp [Region.wanted, yielded]) hS ?_ ?_
    rotate_left
    · intro w hw; go_simp; try with_reducible rfl
    try simp only [Act.put, List.setIfInBounds_toArray, List.set_cons_succ, List.set_cons_zero]
    refine held_pure (v := ?_) rfl rfl (by simp [Region.wanted, yielded]) hS ?_ ?_
    rotate_left
    · intro w hw; go_simp; try with_reducible rfl
    try simp only [Act.put, List.setIfInBounds_toArray, List.set_cons_succ, List.set_cons_zero]
    refine held_pure (v := ?_) rfl rfl (by simp [Region.wanted, yielded]) hS ?_ ?_
    rotate_left
    · intro w hw; go_simp; try with_reducible rfl
    try simp only [Act.put, List.setIfInBounds_toArray, List.set_cons_succ, List.set_cons_zero]
    refine held_pure (v := ?_) rfl rfl (by simp [Region.wanted, yielded]) hS ?_ ?_
    rotate_left
    · intro w hw; have c0 := HL1.out w hw; clear hw; go_simp; try with_reducible rfl
    try simp only [Act.put, List.setIfInBounds_toArray, List.set_cons_succ, List.set_cons_zero]
    refine held_pure (v := ?_) rfl rfl (by simp [Region.wanted, yielded]) hS ?_ ?_
    rotate_left
    · intro w hw; go_simp; try with_reducible rfl
    try simp only [Act.put, List.setIfInBounds_toArray, List.set_cons_succ, List.set_cons_zero]
    refine held_pure (v := ?_) rfl rfl (by simp [Region.wanted, yielded]) hS ?_ ?_
    rotate_left
    · intro w hw; go_simp; try with_reducible rfl
    try simp only [Act.put, List.setIfInBounds_toArray, List.set_cons_succ, List.set_cons_zero]
    refine held_pure (v := ?_) rfl rfl (by simp [Region.wanted, yielded]) hS ?_ ?_
    rotate_left
    · intro w hw; go_simp; try with_reducible rfl
    try simp only [Act.put, List.setIfInBounds_toArray, List.set_cons_succ, List.set_cons_zero]
    refine held_pure (v := ?_) rfl rfl (by simp [Region.wanted, yielded]) hS ?_ ?_
    rotate_left
    · intro w hw; go_simp; try with_reducible rfl
    try simp only [Act.put, List.setIfInBounds_toArray, List.set_cons_succ, List.set_cons_zero]
    refine held_pure (v := ?_) rfl rfl (by simp [Region.wanted, yielded]) hS ?_ ?_
    rotate_left
    · intro w hw; go_simp; try with_reducible rfl
    try simp only [Act.put, List.setIfInBounds_toArray, List.set_cons_succ, List.set_cons_zero]
    refine held_pure (v := ?_) rfl rfl (by simp [Region.wanted, yielded]) hS ?_ ?_
    rotate_left
    · intro w hw; have c0 := HL2.out w hw; clear hw; go_simp; try with_reducible rfl
    try simp only [Act.put, List.setIfInBounds_toArray, List.set_cons_succ, List.set_cons_zero]
    refine held_pure (v := ?_) rfl rfl (by simp [Region.wanted, yielded]) hS ?_ ?_
    rotate_left
    · intro w hw; go_simp; try with_reducible rfl
    try simp only [Act.put, List.setIfInBounds_toArray, List.set_cons_succ, List.set_cons_zero]
    refine held_pure (v := ?_) rfl rfl (by simp [Region.wanted, yielded]) hS ?_ ?_
    rotate_left
    · intro w hw; go_simp; try with_reducible rfl
    try simp only [Act.put, List.setIfInBounds_toArray, List.set_cons_succ, List.set_cons_zero]
    refine held_pure (v := ?_) rfl rfl (by simp [Region.wanted, yielded]) hS ?_ ?_
    rotate_left
    · intro w hw; go_simp; try with_reducible rfl
    try simp only [Act.put, List.setIfInBounds_toArray, List.set_cons_succ, List.set_cons_zero]
    refine held_pure (v := ?_) rfl rfl (by simp [Region.wanted, yielded]) hS ?_ ?_
    rotate_left
    · intro w hw; go_simp; try with_reducible rfl
    try simp only [Act.put, List.setIfInBounds_toArray, List.set_cons_succ, List.set_cons_zero]
    refine held_pure (v := ?_) rfl rfl (by simp [Region.wanted, yielded]) hS ?_ ?_
    rotate_left
    · intro w hw; go_simp; try with_reducible rfl
    try simp only [Act.put, List.setIfInBounds_toArray, List.set_cons_succ, List.set_cons_zero]
    refine held_pure (v := ?_) rfl rfl (by simp [Region.wanted, yielded]) hS ?_ ?_
    rotate_left
    · intro w hw; have c0 := HL3.out w hw; clear hw; go_simp; try with_reducible rfl
    try simp only [Act.put, List.setIfInBounds_toArray, List.set_cons_succ, List.set_cons_zero]
    refine held_pure (v := ?_) rfl rfl (by simp [Region.wanted, yielded]) hS ?_ ?_
    rotate_left
    · intro w hw; go_simp; try with_reducible rfl
    try simp only [Act.put, List.setIfInBounds_toArray, List.set_cons_succ, List.set_cons_zero]
    refine held_pure (v := ?_) rfl rfl (by simp [Region.wanted, yielded]) hS ?_ ?_
    rotate_left
    · intro w hw; go_simp; try with_reducible rfl
    try simp only [Act.put, List.setIfInBounds_toArray, List.set_cons_succ, List.set_cons_zero]
    refine held_pure (v := ?_) rfl rfl (by simp [Region.wanted, yielded]) hS ?_ ?_
    rotate_left
    · intro w hw; go_simp; try with_reducible rfl
    try simp only [Act.put, List.setIfInBounds_toArray, List.set_cons_succ, List.set_cons_zero]
    refine held_pure (v := ?_) rfl rfl (by simp [Region.wanted, yielded]) hS ?_ ?_
    rotate_left
    · intro w hw; go_simp; try with_reducible rfl
    try simp only [Act.put, List.setIfInBounds_toArray, List.set_cons_succ, List.set_cons_zero]
    refine held_end ?_
    clear hS
    go_wp2
    go_ret
    exact ⟨congrArg (fun x => Ending.returned (Value.int .u32 x)) (word_sum a b c d), hg.trans (below_grown ((Below.refl _ _).drew)), hp.on ((Below.refl _ _).drew)⟩
end Go.Proofs.Ytnkkhplddjopnaa
