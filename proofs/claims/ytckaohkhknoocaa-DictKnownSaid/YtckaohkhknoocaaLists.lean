/- The helpers of the references for texts and numbers: each one's contract. -/
import Derived.Test.YtckaohkhknoocaaBase
import Derived.Test.YtckaohkhknoocaaText
import Derived.RegionTactic
import Derived.WalkMore
import Derived.Lib.SlicesS
set_option linter.unusedVariables false
set_option linter.unusedSimpArgs false
namespace Go.Proofs.Ytckaohkhknoocaa
open Go.RowKit
theorem text_info : (Try.prog.info? 9).map (fun i => (i.zero, i.size, i.bytes)) = some (some (.string ⟨#[]⟩), 1, 16) := by kernel_rfl
theorem int_info : (Try.prog.info? 3).map (fun i => (i.zero, i.size, i.bytes)) = some (some (.int .i64 0), 1, 8) := by kernel_rfl

theorem eq_step {α : Type} {l m : List α} {k : Nat} {x y : α} (hx : l[k]? = some x) (hy : m[k]? = some y) (h : l.take k = m.take k) (hxy : x = y) : l.take (k + 1) = m.take (k + 1) := by
  rw [List.take_add_one, List.take_add_one, hx, hy, h, hxy]
theorem neq_step {α : Type} [DecidableEq α] {l m : List α} {k : Nat} {x y : α} (hx : l[k]? = some x) (hy : m[k]? = some y) (hxy : x ≠ y) : decide (l = m) = false := by
  rw [decide_eq_false_iff_not]
  intro h
  subst h
  rw [hx] at hy
  exact hxy (Option.some.inj hy)

set_option maxRecDepth 100000 in
set_option maxHeartbeats 400000 in
theorem eqTexts_any (A B : Option Addr) (n c m d : Nat) (l1 l2 : List ByteArray) (w : World) (h1 : Reads w w.heap.size 1 A n (txs l1)) (h2 : Reads w w.heap.size 1 B m (txs l2)) (hn : n ≤ maxLen) (hm : m ≤ maxLen) :
    Calls Try.prog 15 #[.slice A n c, .slice B m d] w fun e w' => e = .returned (.bool (decide (l1 = l2))) ∧ Below w.heap.size w w' := by
  unfold maxLen at hn hm
  have L1 := Lib.hid (tlen h1)
  have L2 := Lib.hid (tlen h2)
  by_cases hnm : n = m
  · subst hnm
    clear hm
    go_enter Try.func15, Try.ntmps15
    go_wp2
    go_loopw [5] (fun i wr => ∃ k : Nat, k ≤ n ∧ i = .int .i64 (k : Int) ∧ Hid (l1.take k = l2.take k) ∧ Below w.heap.size w wr) (fun i _ => n - (intOf i).toNat)
    case atStart => exact ⟨0, Nat.zero_le _, rfl, Lib.hid rfl, Below.refl _ _⟩
    case round =>
      obtain ⟨k, hk, rfl, hs, hB⟩ := hrel
      by_cases hlt : k < n
      · obtain ⟨a1, v1, rfl, b1, x1, c1⟩ := h1.at_ hlt
        obtain ⟨a2, v2, rfl, b2, x2, c2⟩ := h2.at_ hlt
        obtain ⟨s1, y1, rfl⟩ := txs_get _ _ _ x1
        obtain ⟨s2, y2, rfl⟩ := txs_get _ _ _ x2
        clear x1 x2
        rw [← hB.cell (p := a1.add k) (by rw [block_of_add]; exact b1)] at c1
        rw [← hB.cell (p := a2.add k) (by rw [block_of_add]; exact b2)] at c2
        by_cases hxy : s1 = s2
        · have hst := eq_step y1 y2 hs.out hxy
          have Hst := Lib.hid hst
          subst hxy
          clear y1 y2 b1 b2 hst
          go_wp2
          go_region
          all_goals
            go_wp2
            go_roundw
            case rel => exact ⟨k + 1, by omega, by go_num, Hst, hB.drew⟩
            case measure => simp [intOf]; omega
        · have hst := neq_step y1 y2 hxy
          have Hst := Lib.hid hst
          have hne : (s1.toList == s2.toList) = false := by rw [Lib.bytes_beq_false_iff]; exact hxy
          clear y1 y2 b1 b2 hst
          go_wp2
          go_region
          all_goals
            go_wp2
            go_ret
            exact ⟨by rw [Hst.out]; rfl, hB.drew⟩
      · have hkn : k = n := by omega
        have he := hs.out
        subst hkn
        rw [List.take_of_length_le (by rw [L1.out]; exact Nat.le_refl _), List.take_of_length_le (by rw [L2.out]; exact Nat.le_refl _)] at he
        have He := Lib.hid he
        clear he
        go_wp2
        go_ret
        exact ⟨by rw [decide_eq_true He.out]; rfl, hB⟩
  · have hd : decide (l1 = l2) = false := by
      rw [decide_eq_false_iff_not]
      intro h
      exact hnm (by rw [← L1.out, ← L2.out, h])
    rw [hd]
    clear hd
    go_enter Try.func15, Try.ntmps15
    go_wp2
    go_ret
    exact ⟨rfl, Below.refl _ _⟩
theorem eqTexts_yes (A B : Option Addr) (n c m d : Nat) (l1 l2 : List ByteArray) (w : World) (h1 : Reads w w.heap.size 1 A n (txs l1)) (h2 : Reads w w.heap.size 1 B m (txs l2)) (hn : n ≤ maxLen) (hm : m ≤ maxLen) (h : l1 = l2) :
    Calls Try.prog 15 #[.slice A n c, .slice B m d] w fun e w' => e = .returned (.bool true) ∧ Below w.heap.size w w' := by
  have := eqTexts_any A B n c m d l1 l2 w h1 h2 hn hm
  rwa [decide_eq_true h] at this
theorem eqTexts_no (A B : Option Addr) (n c m d : Nat) (l1 l2 : List ByteArray) (w : World) (h1 : Reads w w.heap.size 1 A n (txs l1)) (h2 : Reads w w.heap.size 1 B m (txs l2)) (hn : n ≤ maxLen) (hm : m ≤ maxLen) (h : l1 ≠ l2) :
    Calls Try.prog 15 #[.slice A n c, .slice B m d] w fun e w' => e = .returned (.bool false) ∧ Below w.heap.size w w' := by
  have := eqTexts_any A B n c m d l1 l2 w h1 h2 hn hm
  rwa [decide_eq_false h] at this

set_option maxRecDepth 100000 in
set_option maxHeartbeats 400000 in
theorem eqInts_any (A B : Option Addr) (n c m d : Nat) (l1 l2 : List Int) (w : World) (h1 : Reads w w.heap.size 1 A n (ins l1)) (h2 : Reads w w.heap.size 1 B m (ins l2)) (hn : n ≤ maxLen) (hm : m ≤ maxLen) :
    Calls Try.prog 16 #[.slice A n c, .slice B m d] w fun e w' => e = .returned (.bool (decide (l1 = l2))) ∧ Below w.heap.size w w' := by
  unfold maxLen at hn hm
  have L1 := Lib.hid (ilen h1)
  have L2 := Lib.hid (ilen h2)
  by_cases hnm : n = m
  · subst hnm
    clear hm
    go_enter Try.func16, Try.ntmps16
    go_wp2
    go_loopw [5] (fun i wr => ∃ k : Nat, k ≤ n ∧ i = .int .i64 (k : Int) ∧ Hid (l1.take k = l2.take k) ∧ Below w.heap.size w wr) (fun i _ => n - (intOf i).toNat)
    case atStart => exact ⟨0, Nat.zero_le _, rfl, Lib.hid rfl, Below.refl _ _⟩
    case round =>
      obtain ⟨k, hk, rfl, hs, hB⟩ := hrel
      by_cases hlt : k < n
      · obtain ⟨a1, v1, rfl, b1, x1, c1⟩ := h1.at_ hlt
        obtain ⟨a2, v2, rfl, b2, x2, c2⟩ := h2.at_ hlt
        obtain ⟨s1, y1, rfl⟩ := ins_get _ _ _ x1
        obtain ⟨s2, y2, rfl⟩ := ins_get _ _ _ x2
        clear x1 x2
        rw [← hB.cell (p := a1.add k) (by rw [block_of_add]; exact b1)] at c1
        rw [← hB.cell (p := a2.add k) (by rw [block_of_add]; exact b2)] at c2
        by_cases hxy : s1 = s2
        · have hst := eq_step y1 y2 hs.out hxy
          have Hst := Lib.hid hst
          subst hxy
          clear y1 y2 b1 b2 hst
          go_wp2
          go_region
          all_goals
            go_wp2
            go_roundw
            case rel => exact ⟨k + 1, by omega, by go_num, Hst, hB.drew⟩
            case measure => simp [intOf]; omega
        · have hst := neq_step y1 y2 hxy
          have Hst := Lib.hid hst
          have hne : (s1 == s2) = false := by rw [beq_eq_false_iff_ne]; exact hxy
          clear y1 y2 b1 b2 hst
          go_wp2
          go_region
          all_goals
            go_wp2
            go_ret
            exact ⟨by rw [Hst.out]; rfl, hB.drew⟩
      · have hkn : k = n := by omega
        have he := hs.out
        subst hkn
        rw [List.take_of_length_le (by rw [L1.out]; exact Nat.le_refl _), List.take_of_length_le (by rw [L2.out]; exact Nat.le_refl _)] at he
        have He := Lib.hid he
        clear he
        go_wp2
        go_ret
        exact ⟨by rw [decide_eq_true He.out]; rfl, hB⟩
  · have hd : decide (l1 = l2) = false := by
      rw [decide_eq_false_iff_not]
      intro h
      exact hnm (by rw [← L1.out, ← L2.out, h])
    rw [hd]
    clear hd
    go_enter Try.func16, Try.ntmps16
    go_wp2
    go_ret
    exact ⟨rfl, Below.refl _ _⟩
theorem eqInts_yes (A B : Option Addr) (n c m d : Nat) (l1 l2 : List Int) (w : World) (h1 : Reads w w.heap.size 1 A n (ins l1)) (h2 : Reads w w.heap.size 1 B m (ins l2)) (hn : n ≤ maxLen) (hm : m ≤ maxLen) (h : l1 = l2) :
    Calls Try.prog 16 #[.slice A n c, .slice B m d] w fun e w' => e = .returned (.bool true) ∧ Below w.heap.size w w' := by
  have := eqInts_any A B n c m d l1 l2 w h1 h2 hn hm
  rwa [decide_eq_true h] at this
theorem eqInts_no (A B : Option Addr) (n c m d : Nat) (l1 l2 : List Int) (w : World) (h1 : Reads w w.heap.size 1 A n (ins l1)) (h2 : Reads w w.heap.size 1 B m (ins l2)) (hn : n ≤ maxLen) (hm : m ≤ maxLen) (h : l1 ≠ l2) :
    Calls Try.prog 16 #[.slice A n c, .slice B m d] w fun e w' => e = .returned (.bool false) ∧ Below w.heap.size w w' := by
  have := eqInts_any A B n c m d l1 l2 w h1 h2 hn hm
  rwa [decide_eq_false h] at this

set_option maxRecDepth 100000 in
set_option maxHeartbeats 400000 in
theorem copyInts_any (A : Option Addr) (n c : Nat) (l : List Int) (w : World) (hr : Reads w w.heap.size 1 A n (ins l)) (hn : n ≤ 1099511627776) :
    Calls Try.prog 21 #[.slice A n c] w fun e w' => ∃ A' c', e = .returned (.slice A' n c') ∧ n ≤ c' ∧ c' ≤ maxLen ∧
      w'.ownsRow w.heap.size 3 1 (.slice A' n c') n (ins l) ∧ Below w.heap.size w w' := by
  obtain ⟨i0, hi0, hz0, hz1, hz2⟩ := info_parts int_info
  go_enter Try.func21, Try.ntmps21
  go_wp2_with (at_builtin
               refine wpList_append_any _ rfl (.tmp 4) (.tmp 5) 26 rfl w.heap.size 3 i0 (.int .i64 0) 1 8 Try.underlying26 hi0 hz0 hz1 hz2 rfl (by decide) none 0 0 [] rfl (World.ownsRow_nil _ _ _ _) A n c (ins l) rfl hr (ins_one l) (by simp only [maxLen]; omega) (by omega) (Nat.le_refl _) ?_
               intro A2 c2 w2 hown2 hb2 hg2 hc2 hm2
               simp only [Nat.zero_add, List.nil_append] at hown2 hc2)
  go_ret
  exact ⟨A2, c2, by simp, hc2, hm2, hown2, hb2⟩
end Go.Proofs.Ytckaohkhknoocaa
