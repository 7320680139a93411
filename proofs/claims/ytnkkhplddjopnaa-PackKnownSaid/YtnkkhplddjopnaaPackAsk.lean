/- Layer 3, walked: asked and answer. -/
import Derived.Test.YtnkkhplddjopnaaPackRef4
set_option linter.unusedVariables false
set_option linter.unusedSimpArgs false
namespace Go.Proofs.Ytnkkhplddjopnaa
open Go.RowKit
theorem PRd.under {w w' : World} {g B : Nat} {xs : List UInt8} {p e : Nat} (h : PRd w g xs p e) (hb : Below B w w') (hg : g < B) (hB : B ≤ w.heap.size) : PRd w' g xs p e := by
  obtain ⟨h0, A, c, h1, h2, h3, h4⟩ := h
  refine ⟨h0, A, c, h1.below hb hg, ⟨h2.1, fun hn => ?_⟩, h3, h4⟩
  obtain ⟨ad, e, hlt, hc⟩ := h2.2 hn
  have := h3 hn ad e
  exact ⟨ad, e, Nat.lt_of_lt_of_le hlt hb.size, fun j u hu => (hb.cell (by rw [block_of_add]; omega)).trans (hc j u hu)⟩
theorem grown_below3 {w w1 w2 : World} {r : Option Nat} (h : w.grownBy w1 r) (h2 : Below w.heap.size w1 w2) : w.grownBy w2 r :=
  ⟨h2.os.trans h.os, h2.tape.trans h.tape, h2.output.trans h.output, Nat.le_trans h.size h2.size, fun k hk h3 => (h2.block k hk).trans (h.block k hk h3)⟩
def toU (x : Int) : Nat := (x % 18446744073709551616).toNat
theorem toU_eq (x : Int) : IntKind.u64.wrap x = (toU x : Int) := by
  unfold toU
  simp only [IntKind.wrap, IntKind.signed, IntKind.bits]
  simp
  omega
/-- What one answers that is asked: a number, bytes, the new place, the new error. -/
def askA (xs : List UInt8) (p e : Nat) (k n : Int) : Nat × ByteArray × Nat × Nat :=
  if k = 0 then ((byteA xs p e).1, ⟨#[]⟩, (byteA xs p e).2) else if k = 1 then ((varA xs p e).1, ⟨#[]⟩, (varA xs p e).2) else if k = 2 then (toU (zag (varA xs p e).1), ⟨#[]⟩, (varA xs p e).2)
  else if k = 3 then (0, textA xs p e n) else if k = 4 then (0, txt (rawA xs p e n).1, (rawA xs p e n).2) else if k = 5 then ((wordA xs p e).1, ⟨#[]⟩, (wordA xs p e).2)
  else if k = 6 then (0, ⟨#[]⟩, p, failA e (n % 7).toNat) else (0, ⟨#[]⟩, p, e)
theorem byteA_lt (xs : List UInt8) (p e : Nat) : (byteA xs p e).1 < 256 := by
  unfold byteA lastB
  split
  · exact Nat.zero_lt_succ _
  · rcases (rawA xs p e 1).1[(rawA xs p e 1).1.length - 1]? with _ | b
    · exact Nat.zero_lt_succ _
    · exact b.toNat_lt
theorem wordA_lt (xs : List UInt8) (p e : Nat) : (wordA xs p e).1 < 4294967296 := by
  have h := rawA_len xs p e 4
  have h2 := wordN_lt (rawA xs p e 4).1
  unfold wordA
  rw [show ((4 : Nat) : Int) = 4 from rfl] at h
  rcases h with h | h <;> rw [h] at h2 <;> simp only [] <;> omega
theorem varA_lt (xs : List UInt8) (p e : Nat) : (varA xs p e).1 < 18446744073709551616 := by
  have h3 := (get_size3 (xs.drop p)).2.2.1
  unfold varA
  split
  · exact Nat.zero_lt_succ _
  · split
    · exact Nat.zero_lt_succ _
    · exact h3
set_option maxRecDepth 100000 in
set_option maxHeartbeats 2000000 in
theorem pasked_any (g : Nat) (xs : List UInt8) (p e : Nat) (kind n : Int) (w : World) (h : PRd w g xs p e) (hl : xs.length ≤ 1099511627776) (hk1 : -9223372036854775808 ≤ kind) (hk2 : kind ≤ 9223372036854775807) (hn1 : -9223372036854775808 ≤ n) (hn2 : n ≤ 9223372036854775807) :
    Calls Try.prog 24 #[.pointer (some ⟨g, 0, none⟩), .agg #[.int .i64 kind, .int .i64 n]] w (Asked g xs (.tuple #[.int .u64 ((askA xs p e (kind % 8) n).1 : Int), .string (askA xs p e (kind % 8) n).2.1]) (askA xs p e (kind % 8) n).2.2.1 (askA xs p e (kind % 8) n).2.2.2 w) := by
  have hk : kind % 8 = 0 ∨ kind % 8 = 1 ∨ kind % 8 = 2 ∨ kind % 8 = 3 ∨ kind % 8 = 4 ∨ kind % 8 = 5 ∨ kind % 8 = 6 ∨ kind % 8 = 7 := by omega
  have hglt := h.lt
  have hba : Below w.heap.size w (w.alloc (.cells #[.int .i64 kind, .int .i64 n] 52)) := (Below.refl _ _).alloc (Nat.le_refl _) _
  have Hg0 := Lib.hid (below_grown (r := some g) hba)
  have H1 := Lib.hid (h.on hba)
  have Hh := Lib.hid h
  clear h
  rcases hk with hk | hk | hk | hk | hk | hk | hk | hk
  · have Hk := Lib.hid hk
    rw [hk]
    clear hk
    unfold askA
    rw [if_pos rfl]
    have hlt := byteA_lt xs p e
    have hcall := fun w1 (hw : PRd w1 g xs p e) => pbyte_any g xs p e w1 hw hl
    unfold Asked at hcall
    generalize byteA xs p e = r at *
    have Hcall := Lib.hid hcall
    clear hcall
    go_enter Try.func24, Try.ntmps24
    go_wp2_with fail
    with_reducible refine (bring_any kind 8 _ hk1 hk2 (by decide) (by decide)).mono ?_
    rintro e w' ⟨rfl, rfl⟩
    rw [Hk.out]
    go_wp2_with fail
    with_reducible refine (Hcall.out _ H1.out).mono ?_
    rintro e w2 ⟨rfl, hg, hp⟩
    go_wp2
    go_ret2
    exact ⟨rfl, Hg0.out.trans hg, hp⟩
  · have Hk := Lib.hid hk
    rw [hk]
    clear hk
    unfold askA
    rw [if_neg (by decide), if_pos rfl]
    have hlt := varA_lt xs p e
    have hcall := fun w1 (hw : PRd w1 g xs p e) => pvar_any g xs p e w1 hw (by omega)
    unfold Asked at hcall
    generalize varA xs p e = r at *
    have Hcall := Lib.hid hcall
    clear hcall
    go_enter Try.func24, Try.ntmps24
    go_wp2_with fail
    with_reducible refine (bring_any kind 8 _ hk1 hk2 (by decide) (by decide)).mono ?_
    rintro e w' ⟨rfl, rfl⟩
    rw [Hk.out]
    go_wp2_with fail
    with_reducible refine (Hcall.out _ H1.out).mono ?_
    rintro e w2 ⟨rfl, hg, hp⟩
    go_wp2
    go_ret2
    exact ⟨rfl, Hg0.out.trans hg, hp⟩
  · have Hk := Lib.hid hk
    rw [hk]
    clear hk
    unfold askA
    rw [if_neg (by decide), if_neg (by decide), if_pos rfl]
    have hlt := varA_lt xs p e
    have hcall := fun w1 (hw : PRd w1 g xs p e) => pint_any g xs p e w1 hw (by omega)
    unfold Asked at hcall
    generalize varA xs p e = r at *
    have Hcall := Lib.hid hcall
    clear hcall
    go_enter Try.func24, Try.ntmps24
    go_wp2_with fail
    with_reducible refine (bring_any kind 8 _ hk1 hk2 (by decide) (by decide)).mono ?_
    rintro e w' ⟨rfl, rfl⟩
    rw [Hk.out]
    go_wp2_with fail
    with_reducible refine (Hcall.out _ H1.out).mono ?_
    rintro e w2 ⟨rfl, hg, hp⟩
    have hz := toU_eq (zag r.1)
    go_wp2
    go_ret2
    exact ⟨rfl, Hg0.out.trans hg, hp⟩
  · have Hk := Lib.hid hk
    rw [hk]
    clear hk
    unfold askA
    rw [if_neg (by decide), if_neg (by decide), if_neg (by decide), if_pos rfl]
    have hcall := fun w1 (hw : PRd w1 g xs p e) => ptext_any g xs p e n w1 hw hl hn2
    unfold Asked at hcall
    generalize textA xs p e n = r at *
    have Hcall := Lib.hid hcall
    clear hcall
    go_enter Try.func24, Try.ntmps24
    go_wp2_with fail
    with_reducible refine (bring_any kind 8 _ hk1 hk2 (by decide) (by decide)).mono ?_
    rintro e w' ⟨rfl, rfl⟩
    rw [Hk.out]
    go_wp2_with fail
    with_reducible refine (Hcall.out _ H1.out).mono ?_
    rintro e w2 ⟨rfl, hg, hp⟩
    go_wp2
    go_ret2
    exact ⟨rfl, Hg0.out.trans hg, hp⟩
  · have Hk := Lib.hid hk
    rw [hk]
    clear hk
    unfold askA
    rw [if_neg (by decide), if_neg (by decide), if_neg (by decide), if_neg (by decide), if_pos rfl]
    have hcall := fun w1 (hw : PRd w1 g xs p e) => praw_any g xs p e n w1 hw hl
    unfold RawP at hcall
    have hpos := (rawA_pos xs p e n Hh.out.1).2.2
    generalize rawA xs p e n = r at *
    obtain ⟨l, p2, e2⟩ := r
    simp only [] at hcall hpos
    obtain ⟨m, hm⟩ : ∃ m, l.length = m := ⟨_, rfl⟩
    rw [hm] at hcall hpos
    have Hm := Lib.hid (show m ≤ 1099511627776 by omega)
    clear hm hpos
    have Hcall := Lib.hid hcall
    clear hcall
    go_enter Try.func24, Try.ntmps24
    go_wp2_with fail
    with_reducible refine (bring_any kind 8 _ hk1 hk2 (by decide) (by decide)).mono ?_
    rintro e w' ⟨rfl, rfl⟩
    rw [Hk.out]
    have hs0 : w.heap.size < (w.alloc (.cells #[.int .i64 kind, .int .i64 n] 52)).heap.size := by simp
    go_wp2_with fail
    with_reducible refine (Hcall.out _ H1.out).mono ?_
    generalize w.alloc (.cells #[.int .i64 kind, .int .i64 n] 52) = w0 at *
    rintro e' w2 ⟨A, c, rfl, g1, g2, o1, hg, hp⟩
    have hC := run_bytes_string w2 32 9 5 Try.underlying32 Try.underlying5 Try.underlying9 _ A m c _ (own_reads o1)
    change _ = Result.ok (Value.string (txt l)) w2 at hC
    have hm2 : m ≤ 1099511627776 := Hm.out
    go_wp2_with fail
    with_reducible refine (spoil_any A m c _ _ _ o1 hm2 hg.size).mono ?_
    rintro e w3 ⟨rfl, hb3⟩
    have hp3 := hp.under hb3 (by omega) hg.size
    have hg3 : w.grownBy w3 (some g) := Hg0.out.trans (grown_below3 hg hb3)
    go_wp2
    go_ret2
    exact ⟨rfl, hg3, hp3⟩
  · have Hk := Lib.hid hk
    rw [hk]
    clear hk
    unfold askA
    rw [if_neg (by decide), if_neg (by decide), if_neg (by decide), if_neg (by decide), if_neg (by decide), if_pos rfl]
    have hlt := wordA_lt xs p e
    have hcall := fun w1 (hw : PRd w1 g xs p e) => pword_any g xs p e w1 hw hl
    unfold Asked at hcall
    generalize wordA xs p e = r at *
    have Hcall := Lib.hid hcall
    clear hcall
    go_enter Try.func24, Try.ntmps24
    go_wp2_with fail
    with_reducible refine (bring_any kind 8 _ hk1 hk2 (by decide) (by decide)).mono ?_
    rintro e w' ⟨rfl, rfl⟩
    rw [Hk.out]
    go_wp2_with fail
    with_reducible refine (Hcall.out _ H1.out).mono ?_
    rintro e w2 ⟨rfl, hg, hp⟩
    go_wp2
    go_ret2
    exact ⟨rfl, Hg0.out.trans hg, hp⟩
  · have Hk := Lib.hid hk
    rw [hk]
    clear hk
    unfold askA
    rw [if_neg (by decide), if_neg (by decide), if_neg (by decide), if_neg (by decide), if_neg (by decide), if_neg (by decide), if_pos rfl]
    obtain ⟨q, hq⟩ : ∃ q : Nat, n % 7 = (q : Int) := ⟨(n % 7).toNat, by omega⟩
    have Hq := Lib.hid hq
    rw [show (n % 7).toNat = q from by omega]
    clear hq
    go_enter Try.func24, Try.ntmps24
    go_wp2_with fail
    with_reducible refine (bring_any kind 8 _ hk1 hk2 (by decide) (by decide)).mono ?_
    rintro e w' ⟨rfl, rfl⟩
    rw [Hk.out]
    go_wp2_with fail
    with_reducible refine (bring_any n 7 _ hn1 hn2 (by decide) (by decide)).mono ?_
    rintro e w' ⟨rfl, rfl⟩
    rw [Hq.out]
    unfold Asked
    have Hcall := Lib.hid (fun w1 (hw : PRd w1 g xs p e) => pfail_any g xs p e q w1 hw)
    unfold Asked at Hcall
    go_wp2_with fail
    with_reducible refine (Hcall.out _ H1.out).mono ?_
    rintro e w2 ⟨rfl, hg, hp⟩
    go_wp2
    go_ret2
    exact ⟨rfl, Hg0.out.trans hg, hp⟩
  · have Hk := Lib.hid hk
    rw [hk]
    clear hk
    unfold askA
    rw [if_neg (by decide), if_neg (by decide), if_neg (by decide), if_neg (by decide), if_neg (by decide), if_neg (by decide), if_neg (by decide)]
    go_enter Try.func24, Try.ntmps24
    go_wp2_with fail
    with_reducible refine (bring_any kind 8 _ hk1 hk2 (by decide) (by decide)).mono ?_
    rintro e w' ⟨rfl, rfl⟩
    rw [Hk.out]
    go_wp2
    go_ret2
    exact ⟨rfl, Hg0.out, H1.out⟩
set_option maxRecDepth 100000 in
set_option maxHeartbeats 2000000 in
theorem rasked_any (g : Nat) (xs : List UInt8) (p e : Nat) (kind n : Int) (w : World) (h : RRd w g xs p e) (hl : xs.length ≤ 1099511627776) (hk1 : -9223372036854775808 ≤ kind) (hk2 : kind ≤ 9223372036854775807) (hn1 : -9223372036854775808 ≤ n) (hn2 : n ≤ 9223372036854775807) :
    Calls Try.prog 25 #[.pointer (some ⟨g, 0, none⟩), .agg #[.int .i64 kind, .int .i64 n]] w (RAsked g xs (.tuple #[.int .u64 ((askA xs p e (kind % 8) n).1 : Int), .string (askA xs p e (kind % 8) n).2.1]) (askA xs p e (kind % 8) n).2.2.1 (askA xs p e (kind % 8) n).2.2.2 w) := by
  have hk : kind % 8 = 0 ∨ kind % 8 = 1 ∨ kind % 8 = 2 ∨ kind % 8 = 3 ∨ kind % 8 = 4 ∨ kind % 8 = 5 ∨ kind % 8 = 6 ∨ kind % 8 = 7 := by omega
  have hglt := h.lt
  have hba : Below w.heap.size w (w.alloc (.cells #[.int .i64 kind, .int .i64 n] 52)) := (Below.refl _ _).alloc (Nat.le_refl _) _
  have Hg0 := Lib.hid (below_grown (r := some g) hba)
  have H1 := Lib.hid (h.on hba)
  have Hh := Lib.hid h
  clear h
  rcases hk with hk | hk | hk | hk | hk | hk | hk | hk
  · have Hk := Lib.hid hk
    rw [hk]
    clear hk
    unfold askA
    rw [if_pos rfl]
    have hlt := byteA_lt xs p e
    have hcall := fun w1 (hw : RRd w1 g xs p e) => rdbyte_any g xs p e w1 hw hl
    unfold RAsked at hcall
    generalize byteA xs p e = r at *
    have Hcall := Lib.hid hcall
    clear hcall
    go_enter Try.func25, Try.ntmps25
    go_wp2_with fail
    with_reducible refine (bring_any kind 8 _ hk1 hk2 (by decide) (by decide)).mono ?_
    rintro e w' ⟨rfl, rfl⟩
    rw [Hk.out]
    go_wp2_with fail
    with_reducible refine (Hcall.out _ H1.out).mono ?_
    rintro e w2 ⟨rfl, hg, hp⟩
    go_wp2
    go_ret2
    exact ⟨rfl, Hg0.out.trans hg, hp⟩
  · have Hk := Lib.hid hk
    rw [hk]
    clear hk
    unfold askA
    rw [if_neg (by decide), if_pos rfl]
    have hlt := varA_lt xs p e
    have hcall := fun w1 (hw : RRd w1 g xs p e) => rdvar_any g xs p e w1 hw hl
    unfold RAsked at hcall
    generalize varA xs p e = r at *
    have Hcall := Lib.hid hcall
    clear hcall
    go_enter Try.func25, Try.ntmps25
    go_wp2_with fail
    with_reducible refine (bring_any kind 8 _ hk1 hk2 (by decide) (by decide)).mono ?_
    rintro e w' ⟨rfl, rfl⟩
    rw [Hk.out]
    go_wp2_with fail
    with_reducible refine (Hcall.out _ H1.out).mono ?_
    rintro e w2 ⟨rfl, hg, hp⟩
    go_wp2
    go_ret2
    exact ⟨rfl, Hg0.out.trans hg, hp⟩
  · have Hk := Lib.hid hk
    rw [hk]
    clear hk
    unfold askA
    rw [if_neg (by decide), if_neg (by decide), if_pos rfl]
    have hlt := varA_lt xs p e
    have hcall := fun w1 (hw : RRd w1 g xs p e) => rdint_any g xs p e w1 hw hl
    unfold RAsked at hcall
    generalize varA xs p e = r at *
    have Hcall := Lib.hid hcall
    clear hcall
    go_enter Try.func25, Try.ntmps25
    go_wp2_with fail
    with_reducible refine (bring_any kind 8 _ hk1 hk2 (by decide) (by decide)).mono ?_
    rintro e w' ⟨rfl, rfl⟩
    rw [Hk.out]
    go_wp2_with fail
    with_reducible refine (Hcall.out _ H1.out).mono ?_
    rintro e w2 ⟨rfl, hg, hp⟩
    have hz := toU_eq (zag r.1)
    go_wp2
    go_ret2
    exact ⟨rfl, Hg0.out.trans hg, hp⟩
  · have Hk := Lib.hid hk
    rw [hk]
    clear hk
    unfold askA
    rw [if_neg (by decide), if_neg (by decide), if_neg (by decide), if_pos rfl]
    have hcall := fun w1 (hw : RRd w1 g xs p e) => rdtext_any g xs p e n w1 hw hl hn2
    unfold RAsked at hcall
    generalize textA xs p e n = r at *
    have Hcall := Lib.hid hcall
    clear hcall
    go_enter Try.func25, Try.ntmps25
    go_wp2_with fail
    with_reducible refine (bring_any kind 8 _ hk1 hk2 (by decide) (by decide)).mono ?_
    rintro e w' ⟨rfl, rfl⟩
    rw [Hk.out]
    go_wp2_with fail
    with_reducible refine (Hcall.out _ H1.out).mono ?_
    rintro e w2 ⟨rfl, hg, hp⟩
    go_wp2
    go_ret2
    exact ⟨rfl, Hg0.out.trans hg, hp⟩
  · have Hk := Lib.hid hk
    rw [hk]
    clear hk
    unfold askA
    rw [if_neg (by decide), if_neg (by decide), if_neg (by decide), if_neg (by decide), if_pos rfl]
    have hcall := fun w1 (hw : RRd w1 g xs p e) => rraw_any2 g xs p e n w1 hw hl
    unfold RRawP at hcall
    have hpos := (rawA_pos xs p e n Hh.out.1).2.2
    generalize rawA xs p e n = r at *
    obtain ⟨l, p2, e2⟩ := r
    simp only [] at hcall hpos
    obtain ⟨m, hm⟩ : ∃ m, l.length = m := ⟨_, rfl⟩
    rw [hm] at hcall hpos
    have Hm := Lib.hid (show m ≤ 1099511627776 by omega)
    clear hm hpos
    have Hcall := Lib.hid hcall
    clear hcall
    go_enter Try.func25, Try.ntmps25
    go_wp2_with fail
    with_reducible refine (bring_any kind 8 _ hk1 hk2 (by decide) (by decide)).mono ?_
    rintro e w' ⟨rfl, rfl⟩
    rw [Hk.out]
    go_wp2
    have hbox := (Blk.new w 52 #[.int .i64 kind, .int .i64 n]).cell 1
    have HL := Lib.hid (show ∀ w' : World, w'.cell? ⟨w.heap.size, 1, none⟩ = some (.int .i64 n) → w'.cell? ⟨w.heap.size, 1, none⟩ = some (.int .i64 n) from fun _ h => h)
    have hS : (w.alloc (.cells #[.int .i64 kind, .int .i64 n] 52)).drew.cell? ⟨w.heap.size, 1, none⟩ = some (.int .i64 n) := hbox
    have H2 := Lib.hid (H1.out.on ((Below.refl _ _).drew))
    have Hg1 := Lib.hid (grown_below3 Hg0.out (Below.refl w.heap.size _).drew)
    clear hbox H1 Hg0
    refine wp_region_keep (fun w' : World => w'.cell? ⟨w.heap.size, 1, none⟩ = some (.int .i64 n)) [(0, false), (1, false), (2, false), (3, true), (5, false), (4, true), (6, false)] (by kernel_rfl) (by kernel_rfl) (by kernel_rfl) (fun d _ _ _ _ h => by cases d <;> exact h) ?_
    refine held_pure (v := ?_) rfl rfl (by simp [Region.wanted, yielded]) hS ?_ ?_
    rotate_left
    · intro w hw; go_simp; try with_reducible rfl
    try simp only [Act.put, List.setIfInBounds_toArray, List.set_cons_succ, List.set_cons_zero]
    refine held_pure (v := ?_) rfl rfl (by simp [Region.wanted, yielded]) hS ?_ ?_
    rotate_left
    · intro w hw; go_simp; try with_reducible rfl
    try simp only [Act.put, List.setIfInBounds_toArray, List.set_cons_succ, List.set_cons_zero]
    refine held_pure (v := ?_) rfl rfl (by simp [Region.wanted, yielded]) hS ?_ ?_
    rotate_left
    · intro w hw; have c0 := HL.out w hw; clear hw; go_simp; try with_reducible rfl
    try simp only [Act.put, List.setIfInBounds_toArray, List.set_cons_succ, List.set_cons_zero]
    refine held_eff1 rfl (by simp [Region.wanted, yielded]) fun K hK => ?_
    go_simp
    with_reducible refine (Hcall.out _ H2.out).mono ?_
    rintro e' w2 ⟨A, c, rfl, g1, g2, o1, hg, hp⟩
    have hC := run_bytes_string w2 32 9 5 Try.underlying32 Try.underlying5 Try.underlying9 _ A m c _ (own_reads o1)
    change _ = Result.ok (Value.string (txt l)) w2 at hC
    refine held_go hK (by exact hg.cell hS (by simp; omega)) fun hS => ?_
    clear hK K
    try simp only [Act.put, List.setIfInBounds_toArray, List.set_cons_succ, List.set_cons_zero]
    refine held_pure (v := ?_) rfl rfl (by simp [Region.wanted, yielded]) hS ?_ ?_
    rotate_left
    · intro w hw; go_simp; try with_reducible rfl
    try simp only [Act.put, List.setIfInBounds_toArray, List.set_cons_succ, List.set_cons_zero]
    refine held_eff1 rfl (by simp [Region.wanted, yielded]) fun K hK => ?_
    go_simp
    refine held_go hK (by exact hS) fun hS => ?_
    clear hK K
    try simp only [Act.put, List.setIfInBounds_toArray, List.set_cons_succ, List.set_cons_zero]
    refine held_pure (v := ?_) rfl rfl (by simp [Region.wanted, yielded]) hS ?_ ?_
    rotate_left
    · intro w hw; go_simp; try with_reducible rfl
    try simp only [Act.put, List.setIfInBounds_toArray, List.set_cons_succ, List.set_cons_zero]
    refine held_end ?_
    clear hS
    go_wp2
    go_ret2
    exact ⟨rfl, Hg1.out.trans hg, hp⟩
  · have Hk := Lib.hid hk
    rw [hk]
    clear hk
    unfold askA
    rw [if_neg (by decide), if_neg (by decide), if_neg (by decide), if_neg (by decide), if_neg (by decide), if_pos rfl]
    have hlt := wordA_lt xs p e
    have hcall := fun w1 (hw : RRd w1 g xs p e) => rdword_any g xs p e w1 hw hl
    unfold RAsked at hcall
    generalize wordA xs p e = r at *
    have Hcall := Lib.hid hcall
    clear hcall
    go_enter Try.func25, Try.ntmps25
    go_wp2_with fail
    with_reducible refine (bring_any kind 8 _ hk1 hk2 (by decide) (by decide)).mono ?_
    rintro e w' ⟨rfl, rfl⟩
    rw [Hk.out]
    go_wp2_with fail
    with_reducible refine (Hcall.out _ H1.out).mono ?_
    rintro e w2 ⟨rfl, hg, hp⟩
    go_wp2
    go_ret2
    exact ⟨rfl, Hg0.out.trans hg, hp⟩
  · have Hk := Lib.hid hk
    rw [hk]
    clear hk
    unfold askA
    rw [if_neg (by decide), if_neg (by decide), if_neg (by decide), if_neg (by decide), if_neg (by decide), if_neg (by decide), if_pos rfl]
    obtain ⟨q, hq⟩ : ∃ q : Nat, n % 7 = (q : Int) := ⟨(n % 7).toNat, by omega⟩
    have Hq := Lib.hid hq
    rw [show (n % 7).toNat = q from by omega]
    clear hq
    go_enter Try.func25, Try.ntmps25
    go_wp2_with fail
    with_reducible refine (bring_any kind 8 _ hk1 hk2 (by decide) (by decide)).mono ?_
    rintro e w' ⟨rfl, rfl⟩
    rw [Hk.out]
    go_wp2_with fail
    with_reducible refine (bring_any n 7 _ hn1 hn2 (by decide) (by decide)).mono ?_
    rintro e w' ⟨rfl, rfl⟩
    rw [Hq.out]
    unfold RAsked
    have Hcall := Lib.hid (fun w1 (hw : RRd w1 g xs p e) => rfail_any g xs p e q _ w1 hw rfl)
    unfold RAsked at Hcall
    go_wp2_with fail
    with_reducible refine (Hcall.out _ H1.out).mono ?_
    rintro e w2 ⟨rfl, hg, hp⟩
    go_wp2
    go_ret2
    exact ⟨rfl, Hg0.out.trans hg, hp⟩
  · have Hk := Lib.hid hk
    rw [hk]
    clear hk
    unfold askA
    rw [if_neg (by decide), if_neg (by decide), if_neg (by decide), if_neg (by decide), if_neg (by decide), if_neg (by decide), if_neg (by decide)]
    go_enter Try.func25, Try.ntmps25
    go_wp2_with fail
    with_reducible refine (bring_any kind 8 _ hk1 hk2 (by decide) (by decide)).mono ?_
    rintro e w' ⟨rfl, rfl⟩
    rw [Hk.out]
    go_wp2
    go_ret2
    exact ⟨rfl, Hg0.out, H1.out⟩
end Go.Proofs.Ytnkkhplddjopnaa
