/- Layer 3, walked: both writers made, asked and done; Clone, spoil. -/
import Derived.Test.YtnkkhplddjopnaaPackPut
import Derived.WalkSpells
import Derived.Lib.LazyBuf
set_option linter.unusedVariables false
set_option linter.unusedSimpArgs false
namespace Go.Proofs.Ytnkkhplddjopnaa
open Go.RowKit
set_option maxRecDepth 100000 in
theorem newW_any (most : Int) (w : World) (h1 : -9223372036854775808 ≤ most) (h2 : most ≤ 9223372036854775807) :
    Calls Try.prog 11 #[.int .i64 most] w fun e w' => e = .returned (.pointer (some ⟨w.heap.size, 0, none⟩)) ∧ PWr w' w.heap.size w.heap.size none [] (max most 0) false ∧ Below w.heap.size w w' ∧ w.heap.size < w'.heap.size := by
  go_enter Try.func11, Try.ntmps11
  go_wp2
  go_ret
  exact ⟨rfl, ⟨Nat.le_refl _, none, 0, Blk.new _ _ _, World.ownsRow_nil _ _ _ _, rfl⟩, (Below.refl _ _).alloc (Nat.le_refl _) _, by simp⟩
set_option maxRecDepth 100000 in
theorem newR_any (most : Int) (w : World) (h1 : -9223372036854775808 ≤ most) (h2 : most ≤ 9223372036854775807) :
    Calls Try.prog 12 #[.int .i64 most] w fun e w' => e = .returned (.pointer (some ⟨w.heap.size, 0, none⟩)) ∧ RWr w' w.heap.size w.heap.size none [] (max most 0) false ∧ Below w.heap.size w w' ∧ w.heap.size < w'.heap.size := by
  go_enter Try.func12, Try.ntmps12
  go_wp2
  go_ret
  exact ⟨rfl, ⟨Nat.le_refl _, none, 0, Blk.new _ _ _, World.ownsRow_nil _ _ _ _, rfl⟩, (Below.refl _ _).alloc (Nat.le_refl _) _, by simp⟩
/-- A copy was made. -/
def Copied (l : List UInt8) (w : World) (e : Ending) (w' : World) : Prop :=
  ∃ (A : Option Addr) (c : Nat), e = .returned (.slice A l.length c) ∧ l.length ≤ c ∧ c ≤ maxLen ∧ w'.ownsRow w.heap.size 5 1 (.slice A l.length c) l.length (u8s l) ∧ Below w.heap.size w w'
set_option maxRecDepth 100000 in
set_option maxHeartbeats 400000 in
theorem clone_any (A : Option Addr) (n c : Nat) (l : List UInt8) (w : World) (hr : Reads w w.heap.size 1 A n (u8s l)) (hn : n ≤ 35184372088832) :
    Calls Try.prog 50 #[.slice A n c] w (Copied l w) := by
  obtain ⟨i0, hi0, hz0, hz1, hz2⟩ := info_parts u8_info
  have hl := reads_len hr
  have hs1 : 0 + n ≤ maxLen := by simp only [maxLen]; omega
  have hs2 : (0 + n) * 1 ≤ 70368744177664 := by omega
  rcases A with _ | ad
  · have h0 : n = 0 := by
      rcases Nat.eq_zero_or_pos n with h0 | h0
      · exact h0
      · obtain ⟨ad, h, _⟩ := hr.2 h0
        cases h
    have hl0 : l = [] := List.eq_nil_of_length_eq_zero (by omega)
    subst h0
    subst hl0
    have heq := Lib.run_eql_slice_nil (P := Try.prog) w 32 5 none 0 c 0 0 Try.underlying32
    simp only [Option.isNone_none] at heq
    go_enter Try.func50, Try.ntmps50
    go_wp2
    go_ret
    exact ⟨none, 0, rfl, Nat.le_refl _, by simp [maxLen], World.ownsRow_nil _ _ _ _, Below.refl _ _⟩
  · have Hl := Lib.hid hl
    clear hl
    have heq := Lib.run_eql_slice_nil (P := Try.prog) w 32 5 (some ad) n c 0 0 Try.underlying32
    simp only [Option.isNone_some] at heq
    go_enter Try.func50, Try.ntmps50
    go_wp2_with (at_builtin
                 refine wpList_append_any _ rfl (.tmp 5) (.tmp 6) 32 rfl w.heap.size 5 i0 (.int .u8 0) 1 1 Try.underlying32 hi0 hz0 hz1 hz2 rfl (by decide) _ 0 0 [] rfl (World.ownsRow_made w #[] 0 (Nat.le_refl _) (by simp [maxLen]) rfl) (some ad) n c (u8s l) rfl (hr.al _) (u8s_one _) hs1 hs2 (by simp) ?_
                 intro A2 c2 w2 hown2 hb2 hg2 hc2 hm2
                 simp only [Nat.zero_add, List.nil_append] at hown2 hc2)
    go_ret
    unfold Copied
    simp only [Hl.out]
    exact ⟨A2, c2, by simp, hc2, hm2, hown2, ((Below.refl _ _).alloc (Nat.le_refl _) _).trans hb2⟩
/-- What Done hands back. -/
def Doned (B : List UInt8) (full : Bool) (w : World) (e : Ending) (w' : World) : Prop :=
  Below w.heap.size w w' ∧ match full with
    | true => e = .returned (.tuple #[.slice none 0 0, .int .i64 5])
    | false => ∃ (A : Option Addr) (c : Nat), e = .returned (.tuple #[.slice A B.length c, .int .i64 0]) ∧ B.length ≤ c ∧ c ≤ maxLen ∧ w'.ownsRow w.heap.size 5 1 (.slice A B.length c) B.length (u8s B)
set_option maxRecDepth 100000 in
set_option maxHeartbeats 400000 in
theorem wdone_any (base g : Nat) (r : Option Nat) (B : List UInt8) (most : Int) (full : Bool) (w : World) (hp : PWr w base g r B most full) (hb : B.length ≤ 1000000000) :
    Calls Try.prog 15 #[.pointer (some ⟨g, 0, none⟩)] w (Doned B full w) := by
  obtain ⟨hbg, A0, c0, hblk, hown, hrr⟩ := hp
  have d0 := hblk.cell 0
  have d1 := hblk.cell 1
  have d3 := hblk.cell 3
  have rb := own_reads hown
  clear hblk hown hrr
  rcases full with _ | _
  · go_enter Try.func15, Try.ntmps15
    go_wp2_with fail
    with_reducible refine (clone_any A0 B.length c0 B _ rb (by omega)).mono ?_
    rintro e w1 ⟨A1, c1, rfl, g1, g2, o1, hb1⟩
    go_wp2
    go_ret2
    exact ⟨hb1, A1, c1, rfl, g1, g2, o1⟩
  · go_enter Try.func15, Try.ntmps15
    go_wp2
    go_ret2
    exact ⟨Below.refl _ _, rfl⟩
set_option maxRecDepth 100000 in
set_option maxHeartbeats 400000 in
theorem rdone_any (base g : Nat) (r : Option Nat) (B : List UInt8) (most : Int) (full : Bool) (w : World) (hp : RWr w base g r B most full) (hb : B.length ≤ 1000000000) :
    Calls Try.prog 16 #[.pointer (some ⟨g, 0, none⟩)] w (Doned B full w) := by
  obtain ⟨hbg, A0, c0, hblk, hown, hrr⟩ := hp
  have d0 := hblk.cell 0
  have d2 := hblk.cell 2
  have rb := own_reads hown
  clear hblk hown hrr
  rcases full with _ | _
  · go_enter Try.func16, Try.ntmps16
    go_wp2_with fail
    with_reducible refine (copyBytes_any A0 B.length c0 B _ rb (by omega)).mono ?_
    rintro e w1 ⟨A1, c1, rfl, g1, g2, o1, hb1⟩
    go_wp2
    go_ret2
    exact ⟨hb1, A1, c1, rfl, g1, g2, o1⟩
  · go_enter Try.func16, Try.ntmps16
    go_wp2
    go_ret2
    exact ⟨Below.refl _ _, rfl⟩
set_option maxRecDepth 100000 in
set_option maxHeartbeats 400000 in
theorem wlen_any (base g : Nat) (r : Option Nat) (B : List UInt8) (most : Int) (full : Bool) (w : World) (hp : PWr w base g r B most full) :
    Calls Try.prog 17 #[.pointer (some ⟨g, 0, none⟩)] w fun e w' => e = .returned (.int .i64 (B.length : Int)) ∧ w = w' := by
  obtain ⟨hbg, A0, c0, hblk, hown, hrr⟩ := hp
  have d0 := hblk.cell 0
  clear hblk hown hrr
  go_enter Try.func17, Try.ntmps17
  go_wp2
  go_ret
  exact ⟨rfl, rfl⟩
theorem xor_165 (z : UInt8) : bits .xor .u8 (z.toNat : Int) 165 = (((UInt8.ofNat (z.toNat ^^^ 165)).toNat : Nat) : Int) := by
  have h := z.toNat_lt
  have h2 : z.toNat ^^^ 165 < 256 := Nat.xor_lt_two_pow (n := 8) (by omega) (by omega)
  rw [show (165 : Int) = ((165 : Nat) : Int) from rfl, u8_xor_nat _ _ h (by omega), UInt8.toNat_ofNat', Nat.mod_eq_of_lt h2]
set_option maxRecDepth 100000 in
set_option maxHeartbeats 1000000 in
theorem spoil_any (A : Option Addr) (n c base : Nat) (l : List UInt8) (w : World) (ho : w.ownsRow base 5 1 (.slice A n c) n (u8s l)) (hn : n ≤ 1099511627776) (hbw : base ≤ w.heap.size) :
    Calls Try.prog 19 #[.slice A n c] w fun e w' => e = .returned (.tuple #[]) ∧ Below base w w' := by
  go_enter Try.func19, Try.ntmps19
  go_wp2
  go_loopw [2] (fun i wr => ∃ (k : Nat) (xs : List UInt8), k ≤ n ∧ i = .int .i64 (k : Int) ∧ wr.ownsRow base 5 1 (.slice A n c) n (u8s xs) ∧ Below base w wr) (fun i _ => n - (intOf i).toNat)
  case atStart => exact ⟨0, l, Nat.zero_le _, rfl, ho, Below.refl _ _⟩
  case round =>
    clear ho
    obtain ⟨k, xs, hk, rfl, hown, hB⟩ := hrel
    by_cases hlt : k < n
    · obtain ⟨g, rfl, hg, hg2, hcell, hfz⟩ := own_at hown (by omega)
      have hzl : xs.length = n := by have := hown.1; simpa using this
      obtain ⟨z, hz1⟩ : ∃ z, xs[k]? = some z := ⟨_, List.getElem?_eq_getElem (by omega)⟩
      have hck := hcell k (.int .u8 (z.toNat : Int)) (by simp [u8s, hz1])
      have hfk := hfz k
      have Hown := Lib.hid hown
      have hz256 : z.toNat < 256 := z.toNat_lt
      clear hcell hfz hown hzl hz1
      go_wp2
      have ho2 := own_set Hown.out k hlt (.int .u8 ((UInt8.ofNat (z.toNat ^^^ 165)).toNat : Int))
      have hB2 := hB.setCell (p := ⟨g, k, none⟩) hg (.int .u8 ((UInt8.ofNat (z.toNat ^^^ 165)).toNat : Int))
      rw [u8s_set] at ho2
      rw [xor_165 z]
      go_roundw
      case rel => exact ⟨k + 1, _, by omega, by go_num, ho2, hB2⟩
      case measure => simp [intOf]; omega
    · go_wp2
      go_end0
      exact ⟨rfl, hB⟩
end Go.Proofs.Ytnkkhplddjopnaa
