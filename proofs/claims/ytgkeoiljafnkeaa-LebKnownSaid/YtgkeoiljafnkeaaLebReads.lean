/- The law LebReads, walked: Get and GetInt answer as the reference does, of all bytes. -/
import Derived.Test.YtgkeoiljafnkeaaLebLaw
set_option linter.unusedVariables false
set_option linter.unusedSimpArgs false
namespace Go.Proofs.Ytgkeoiljafnkeaa
open Go.RowKit
set_option maxRecDepth 100000 in
set_option maxHeartbeats 1000000 in
theorem lebReads_any (A : Option Addr) (l c : Nat) (xs : List UInt8) (w : World) (hr : Reads w w.heap.size 1 A l (u8s xs)) (hl : l ≤ c) (hc : c ≤ maxLen) :
    Calls Try.prog 4 #[.slice A l c] w fun e w' => e = .returned (.bool true) ∧ Below w.heap.size w w' := by
  go_enter Try.func4, Try.ntmps4
  go_wp2_with fail
  refine (cut_any A l c xs _ hr hl hc).mono ?_
  rintro e w1 ⟨A1, c1, rfl, hc1, hd1, hown1, hb1⟩
  generalize hys : cut60 xs = ys at hc1 hown1 ⊢
  have Hys := Lib.hid hys
  clear hys
  go_wp2_with fail
  refine (get_any A1 _ c1 ys _ (own_reads hown1) hc1 hd1).mono ?_
  rintro e w' ⟨rfl, rfl⟩
  simp only [gotten]
  go_wp2_with fail
  refine (refGet_any A1 _ c1 ys _ (own_reads hown1) hc1 hd1).mono ?_
  rintro e w' ⟨rfl, rfl⟩
  simp only [gotten]
  go_wp2_with fail
  refine (getInt_any A1 _ c1 ys _ (own_reads hown1) hc1 hd1).mono ?_
  rintro e w' ⟨rfl, rfl⟩
  simp only [gottenInt]
  go_wp2_with fail
  refine (refGetInt_any A1 _ c1 ys _ (own_reads hown1) hc1 hd1).mono ?_
  rintro e w' ⟨rfl, rfl⟩
  simp only [gottenInt]
  go_wp2_with fail
  refine (cut_any A l c xs _ (hr.on hb1) hl hc).mono ?_
  rintro e w2 ⟨A2, c2, rfl, hc2, hd2, hown2, hb2⟩
  rw [Hys.out] at hc2 hown2 ⊢
  go_wp2_with fail
  refine (eq_yes _ _ _ _ _ _ ys ys _ (own_reads (own_below hown1 hb2)) (own_reads hown2) rfl).mono ?_
  rintro e w' ⟨rfl, rfl⟩
  go_wp2_with fail
  refine (works_any _).mono ?_
  rintro e w3 ⟨rfl, hb3⟩
  go_wp2
  go_ret
  exact ⟨rfl, bon (bon hb1 hb2) hb3⟩
end Go.Proofs.Ytgkeoiljafnkeaa
