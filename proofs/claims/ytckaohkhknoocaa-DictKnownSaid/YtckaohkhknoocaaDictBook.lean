/- Layer 15, walked: a book's text and end. -/
import Derived.Test.YtckaohkhknoocaaDictJoinP
import Derived.Deep.RegionHeld
set_option linter.unusedVariables false
set_option linter.unusedSimpArgs false
namespace Go.Proofs.Ytckaohkhknoocaa
open Go.RowKit
abbrev Book (w : World) (g : Nat) (A : Option Addr) (m c : Nat) (u : Nat) : Prop := Blk w g 54 #[.slice A m c, .int .i64 (u : Int)]
theorem u64_small (x : Int) (h0 : 0 ≤ x) (h1 : x < 18446744073709551616) : x % 18446744073709551616 = x := Int.emod_eq_of_lt h0 h1

set_option maxRecDepth 100000 in
set_option maxHeartbeats 400000 in
theorem btext_no (g : Nat) (A : Option Addr) (m c u : Nat) (y : Int) (w : World) (hb : Book w g A m c u) (hm : m ≤ maxLen) (hu : u ≤ m) (h : (u : Int) < y ∨ (m : Int) ≤ y) :
    Calls Try.prog 31 #[.pointer (some ⟨g, 0, none⟩), .int .u64 y] w fun e w' => e = .returned (.tuple #[.string ⟨#[]⟩, .int .i64 150]) ∧ w = w' := by
  have c0 := hb.cell 0
  have c1 := hb.cell 1
  unfold maxLen at hm
  by_cases h1 : (u : Int) < y
  · go_enter Try.func31, Try.ntmps31
    go_wp2
    go_ret2
    exact ⟨rfl, rfl⟩
  · have h2 : (m : Int) ≤ y := by omega
    go_enter Try.func31, Try.ntmps31
    go_wp2
    go_ret2
    exact ⟨rfl, rfl⟩
set_option maxRecDepth 100000 in
set_option maxHeartbeats 400000 in
theorem btext_yes (g : Nat) (A : Option Addr) (m c u n : Nat) (d : List ByteArray) (s : ByteArray) (w : World) (hb : Book w g A m c u) (hr : Reads w w.heap.size 1 A m (txs d)) (hm : m ≤ maxLen) (hu : u ≤ m) (h1 : n ≤ u) (h2 : n < m) (hs : d[n]? = some s) (hg : ∀ ad, A = some ad → ad.block ≠ g) :
    Calls Try.prog 31 #[.pointer (some ⟨g, 0, none⟩), .int .u64 (n : Int)] w fun e w' => e = .returned (.tuple #[.string s, .int .i64 0]) ∧ w' = if n = u then w.setCell ⟨g, 1, none⟩ (.int .i64 ((u + 1 : Nat) : Int)) else w := by
  have c0 := hb.cell 0
  have c1 := hb.cell 1
  have f1 := hb.frozen 1
  have hbs := hb.set_ 1 (.int .i64 ((u : Int) + 1))
  have c0' := hbs.cell 0
  obtain ⟨ad, v, rfl, hbk, hx, hcell⟩ := hr.at_ h2
  obtain ⟨s', hs', rfl⟩ := txs_get _ _ _ hx
  obtain rfl : s' = s := by rw [hs] at hs'; exact (Option.some.inj hs').symm
  clear hx hs' hs
  unfold maxLen at hm
  have h3 : ¬ (u : Int) < (n : Int) := by omega
  by_cases he : n = u
  · subst he
    have hne : ad.block ≠ g := hg ad rfl
    have hcell' : (w.setCell ⟨g, 1, none⟩ (.int .i64 ((n : Int) + 1))).cell? (ad.add n) = some (.string s') := by
      rw [World.cell?_setCell_far _ _ _ _ (by rw [block_of_add]; exact hne.symm)]; exact hcell
    clear hg
    go_enter Try.func31, Try.ntmps31
    go_wp2
    go_ret2
    exact ⟨rfl, by simp⟩
  · have H : ((n : Int) == (u : Int)) = false := by simp; omega
    clear hg
    go_enter Try.func31, Try.ntmps31
    go_wp2
    go_ret2
    exact ⟨rfl, rfl⟩
set_option maxRecDepth 100000 in
set_option maxHeartbeats 400000 in
theorem bend_any (g : Nat) (A : Option Addr) (m c u : Nat) (w : World) (hb : Book w g A m c u) (hm : m ≤ maxLen) (hu : u ≤ m) :
    Calls Try.prog 32 #[.pointer (some ⟨g, 0, none⟩)] w fun e w' => e = .returned (.int .i64 (if u < m then 150 else 0)) ∧ Below w.heap.size w w' := by
  have c0 := hb.cell 0
  have c1 := hb.cell 1
  by_cases h : u < m
  · have db : decide (u < m) = true := by simp; omega
    have hB := Below.refl w.heap.size w
    go_enter Try.func32, Try.ntmps32
    go_wp2
    go_region
    all_goals
      go_wp2
      go_ret
      exact ⟨rfl, hB.drew⟩
  · have db : decide (u < m) = false := by simp; omega
    have hB := Below.refl w.heap.size w
    go_enter Try.func32, Try.ntmps32
    go_wp2
    go_region
    all_goals
      go_wp2
      go_ret
      exact ⟨rfl, hB.drew⟩
end Go.Proofs.Ytckaohkhknoocaa
