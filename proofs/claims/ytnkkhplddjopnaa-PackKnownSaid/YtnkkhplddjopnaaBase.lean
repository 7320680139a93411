/- The helpers of the references: each one's contract. -/
import Derived.Test.YtnkkhplddjopnaaRows
import Derived.Test.YtnkkhplddjopnaaMem
set_option linter.unusedVariables false
set_option linter.unusedSimpArgs false
namespace Go.Proofs.Ytnkkhplddjopnaa
open Go.RowKit
theorem u8_info : (Try.prog.info? 5).map (fun i => (i.zero, i.size, i.bytes)) = some (some (.int .u8 0), 1, 1) := by kernel_rfl

set_option maxRecDepth 100000 in
set_option maxHeartbeats 400000 in
theorem eqBytes_any (A B : Option Addr) (n c m d : Nat) (l1 l2 : List UInt8) (w : World) (h1 : Reads w w.heap.size 1 A n (u8s l1)) (h2 : Reads w w.heap.size 1 B m (u8s l2)) :
    Calls Try.prog 18 #[.slice A n c, .slice B m d] w fun e w' => e = .returned (.bool (l1 == l2)) ∧ w = w' := by
  have e1 := run_bytes_string (P := Try.prog) w 32 9 5 Try.underlying32 Try.underlying5 Try.underlying9 _ A n c l1 h1
  have e2 := run_bytes_string (P := Try.prog) w 32 9 5 Try.underlying32 Try.underlying5 Try.underlying9 _ B m d l2 h2
  go_enter Try.func18, Try.ntmps18
  go_wp2
  go_ret
  exact ⟨rfl, rfl⟩
theorem eq_yes (A B : Option Addr) (n c m d : Nat) (l1 l2 : List UInt8) (w : World) (h1 : Reads w w.heap.size 1 A n (u8s l1)) (h2 : Reads w w.heap.size 1 B m (u8s l2)) (h : l1 = l2) :
    Calls Try.prog 18 #[.slice A n c, .slice B m d] w fun e w' => e = .returned (.bool true) ∧ w = w' := by
  subst h
  simpa using eqBytes_any A B n c m d l1 l1 w h1 h2
theorem eq_no (A B : Option Addr) (n c m d : Nat) (l1 l2 : List UInt8) (w : World) (h1 : Reads w w.heap.size 1 A n (u8s l1)) (h2 : Reads w w.heap.size 1 B m (u8s l2)) (h : l1 ≠ l2) :
    Calls Try.prog 18 #[.slice A n c, .slice B m d] w fun e w' => e = .returned (.bool false) ∧ w = w' := by
  have := eqBytes_any A B n c m d l1 l2 w h1 h2
  rwa [beq_false_of_ne h] at this

set_option maxRecDepth 100000 in
set_option maxHeartbeats 400000 in
theorem copyBytes_any (A : Option Addr) (n c : Nat) (l : List UInt8) (w : World) (hr : Reads w w.heap.size 1 A n (u8s l)) (hn : n ≤ 35184372088832) :
    Calls Try.prog 21 #[.slice A n c] w fun e w' => ∃ A' c', e = .returned (.slice A' n c') ∧ n ≤ c' ∧ c' ≤ maxLen ∧
      w'.ownsRow w.heap.size 5 1 (.slice A' n c') n (u8s l) ∧ Below w.heap.size w w' := by
  obtain ⟨i0, hi0, hz0, hz1, hz2⟩ := info_parts u8_info
  go_enter Try.func21, Try.ntmps21
  go_wp2_with (at_builtin
               refine wpList_append_any _ rfl (.tmp 4) (.tmp 5) 32 rfl w.heap.size 5 i0 (.int .u8 0) 1 1 Try.underlying32 hi0 hz0 hz1 hz2 rfl (by decide) none 0 0 [] rfl (World.ownsRow_nil _ _ _ _) A n c (u8s l) rfl hr (u8s_one l) (by simp only [maxLen]; omega) (by omega) (Nat.le_refl _) ?_
               intro A2 c2 w2 hown2 hb2 hg2 hc2 hm2
               simp only [Nat.zero_add, List.nil_append] at hown2 hc2)
  go_ret
  exact ⟨A2, c2, by simp, hc2, hm2, hown2, hb2⟩
end Go.Proofs.Ytnkkhplddjopnaa
