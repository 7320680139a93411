/- Layer 3, walked: the program's reader: Err, Fail, End, At, Left. -/
import Derived.Test.YtnkkhplddjopnaaPackW3
import Derived.Test.YtnkkhplddjopnaaDictGetP
set_option linter.unusedVariables false
set_option linter.unusedSimpArgs false
namespace Go.Proofs.Ytnkkhplddjopnaa
open Go.RowKit
/-- A reader of the program: bytes, a place, an error. -/
def PRd (w : World) (g : Nat) (xs : List UInt8) (p e : Nat) : Prop :=
  p ≤ xs.length ∧ ∃ (A : Option Addr) (c : Nat), Blk w g 67 #[.slice A (xs.length - p) c, .bool true, .int .i64 (p : Int), .int .i64 (e : Int)] ∧ Reads w w.heap.size 1 A (xs.length - p) (u8s (xs.drop p)) ∧ (0 < xs.length - p → ∀ ad, A = some ad → ad.block < g) ∧ xs.length - p ≤ c ∧ c ≤ maxLen
theorem PRd.lt {w : World} {g : Nat} {xs : List UInt8} {p e : Nat} (h : PRd w g xs p e) : g < w.heap.size := by
  obtain ⟨_, A, c, h1, _⟩ := h
  exact h1.lt
theorem PRd.on {w w' : World} {g : Nat} {xs : List UInt8} {p e : Nat} (h : PRd w g xs p e) (hb : Below w.heap.size w w') : PRd w' g xs p e := by
  obtain ⟨h0, A, c, h1, h2, h3⟩ := h
  exact ⟨h0, A, c, h1.on hb, h2.on hb, h3⟩
set_option maxRecDepth 100000 in
theorem perr_any (g : Nat) (xs : List UInt8) (p e : Nat) (w : World) (h : PRd w g xs p e) :
    Calls Try.prog 26 #[.pointer (some ⟨g, 0, none⟩)] w fun e' w' => e' = .returned (.int .i64 (e : Int)) ∧ w = w' := by
  obtain ⟨h0, A, c, h1, h2, h3, h4, h5⟩ := h
  have d1 := h1.cell 1
  have d3 := h1.cell 3
  clear h0 h1 h2 h3 h4 h5
  go_enter Try.func26, Try.ntmps26
  go_wp2
  go_ret
  exact ⟨rfl, rfl⟩
set_option maxRecDepth 100000 in
theorem pat_any (g : Nat) (xs : List UInt8) (p e : Nat) (w : World) (h : PRd w g xs p e) :
    Calls Try.prog 27 #[.pointer (some ⟨g, 0, none⟩)] w fun e' w' => e' = .returned (.int .i64 (p : Int)) ∧ w = w' := by
  obtain ⟨h0, A, c, h1, h2, h3, h4, h5⟩ := h
  have d2 := h1.cell 2
  clear h0 h1 h2 h3 h4 h5
  go_enter Try.func27, Try.ntmps27
  go_wp2
  go_ret
  exact ⟨rfl, rfl⟩
set_option maxRecDepth 100000 in
theorem pleft_any (g : Nat) (xs : List UInt8) (p e : Nat) (w : World) (h : PRd w g xs p e) :
    Calls Try.prog 28 #[.pointer (some ⟨g, 0, none⟩)] w fun e' w' => e' = .returned (.int .i64 ((xs.length - p : Nat) : Int)) ∧ w = w' := by
  obtain ⟨h0, A, c, h1, h2, h3, h4, h5⟩ := h
  have d0 := h1.cell 0
  generalize xs.length - p = m at *
  clear h0 h1 h2 h3 h4 h5
  go_enter Try.func28, Try.ntmps28
  go_wp2
  go_ret
  exact ⟨rfl, rfl⟩
/-- What End answers. -/
def endE (m e : Nat) : Nat := if e = 0 ∧ 0 < m then 30 else e
set_option maxRecDepth 100000 in
theorem pend_any (g : Nat) (xs : List UInt8) (p e : Nat) (w : World) (h : PRd w g xs p e) :
    Calls Try.prog 30 #[.pointer (some ⟨g, 0, none⟩)] w fun e' w' => e' = .returned (.int .i64 (endE (xs.length - p) e : Int)) ∧ w = w' := by
  have h' := h
  obtain ⟨h0, A, c, h1, h2, h3, h4, h5⟩ := h
  have d0 := h1.cell 0
  have H := Lib.hid h'
  clear h0 h1 h2 h3 h4 h5 h'
  generalize hm : xs.length - p = m at *
  clear hm
  by_cases he : e = 0
  · subst he
    by_cases hm0 : m = 0
    · have hE : endE m 0 = 0 := by unfold endE; rw [if_neg (by omega)]
      rw [hE]
      have d : (((m : Nat) : Int) == 0) = true := by simp; omega
      clear hE
      go_enter Try.func30, Try.ntmps30
      go_wp2_with fail
      with_reducible refine (perr_any g xs p 0 _ H.out).mono ?_
      rintro e w' ⟨rfl, rfl⟩
      clear hm0
      go_wp2
      go_ret
      exact ⟨rfl, rfl⟩
    · have hE : endE m 0 = 30 := by unfold endE; rw [if_pos (by omega)]
      rw [hE]
      have d : (((m : Nat) : Int) == 0) = false := by simp; omega
      clear hE
      go_enter Try.func30, Try.ntmps30
      go_wp2_with fail
      with_reducible refine (perr_any g xs p 0 _ H.out).mono ?_
      rintro e w' ⟨rfl, rfl⟩
      clear hm0
      go_wp2
      go_ret
      exact ⟨rfl, rfl⟩
  · have hE : endE m e = e := by unfold endE; rw [if_neg (by omega)]
    rw [hE]
    have hn : ((e : Int) == 0) = false := by simp; omega
    have hn2 : ((e : Int) != 0) = true := by simp; omega
    clear hE he
    go_enter Try.func30, Try.ntmps30
    go_wp2_with fail
    with_reducible refine (perr_any g xs p e _ H.out).mono ?_
    rintro e w' ⟨rfl, rfl⟩
    go_wp2
    go_ret
    exact ⟨rfl, rfl⟩
end Go.Proofs.Ytnkkhplddjopnaa
