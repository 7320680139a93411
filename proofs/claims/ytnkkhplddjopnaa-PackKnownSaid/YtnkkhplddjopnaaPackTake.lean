/- Layer 3, walked: take, at each type that the reader uses. -/
import Derived.Test.YtnkkhplddjopnaaPackR
set_option linter.unusedVariables false
set_option linter.unusedSimpArgs false
namespace Go.Proofs.Ytnkkhplddjopnaa
open Go.RowKit
/-- What a read answers: an error, or a value and how many bytes it took. -/
def ReadP (res : Except Nat Nat) (m : Nat) (Good : Value → World → Prop) (w : World) (e : Ending) (w' : World) : Prop :=
  Below w.heap.size w w' ∧ ((∃ (er : Nat) (z : Value) (k : Int), er ≠ 0 ∧ res = .error er ∧ e = .returned (.tuple #[z, .int .i64 k, .int .i64 (er : Int)])) ∨ (∃ (v : Value) (n : Nat), res = .ok n ∧ n ≤ m ∧ Good v w' ∧ e = .returned (.tuple #[v, .int .i64 (n : Int), .int .i64 0])))
/-- What take does. -/
def TakeP (g : Nat) (xs : List UInt8) (p : Nat) (res : Except Nat Nat) (zero : Value) (Good : Value → World → Prop) (w : World) (e : Ending) (w' : World) : Prop :=
  w.grownBy w' (some g) ∧ ((∃ er, er ≠ 0 ∧ res = .error er ∧ e = .returned zero ∧ PRd w' g xs p er) ∨ (∃ (v : Value) (n : Nat), res = .ok n ∧ Good v w' ∧ e = .returned v ∧ p + n ≤ xs.length ∧ PRd w' g xs (p + n) 0))
theorem i64_sum (a b : Nat) (h : a + b ≤ 9223372036854775807) : IntKind.i64.wrap ((a : Int) + (b : Int)) = ((a + b : Nat) : Int) := by
  rw [i64_wrap_in _ (by omega) (by omega)]
  omega
theorem grown_set3 (w : World) (g i : Nat) (u : Value) : w.grownBy (w.setCell ⟨g, i, none⟩ u) (some g) :=
  ⟨rfl, rfl, rfl, by simp [World.setCell], fun k hk hne => Below.heap_setCell w ⟨g, i, none⟩ u k (by intro e; exact hne (by rw [e]))⟩
theorem below_grown {w w' : World} {r : Option Nat} (h : Below w.heap.size w w') : w.grownBy w' r := ⟨h.os, h.tape, h.output, h.size, fun k hk _ => h.block k hk⟩
theorem Reads.other3 {w w' : World} {size n g : Nat} {A : Option Addr} {xs : List Value} (h : Reads w w.heap.size size A n xs) (hg : w.grownBy w' (some g)) (hne : 0 < n → ∀ ad, A = some ad → ad.block < g) : Reads w' w'.heap.size size A n xs := by
  refine ⟨h.1, fun hn => ?_⟩
  obtain ⟨ad, e, h1, h2⟩ := h.2 hn
  refine ⟨ad, e, Nat.lt_of_lt_of_le h1 hg.size, fun j u hu => ?_⟩
  exact hg.cell (h2 j u hu) (by have := hne hn ad e; rw [block_of_add]; simp; omega)
set_option maxRecDepth 100000 in
set_option maxHeartbeats 2000000 in
theorem takeU_any (g : Nat) (xs : List UInt8) (p : Nat) (res : Except Nat Nat) (Good : Value → World → Prop)  (w : World) (h : PRd w g xs p 0) (hl : xs.length ≤ 9223372036854775807) (hgood : ∀ v w1 w2, Good v w1 → g < w1.heap.size → w1.grownBy w2 (some g) → Good v w2)
    (hread : ∀ (A : Option Addr) (c : Nat), Reads w w.heap.size 1 A (xs.length - p) (u8s (xs.drop p)) → xs.length - p ≤ c → c ≤ maxLen → Calls Try.prog 74 #[.slice A (xs.length - p) c] w (ReadP res (xs.length - p) Good w)) :
    Calls Try.prog 75 #[.pointer (some ⟨g, 0, none⟩), .func (.func 74) #[] #[]] w (TakeP g xs p res (.int .u64 0) Good w) := by
  have Hread := Lib.hid hread
  have Hgood := Lib.hid hgood
  have H := Lib.hid h
  obtain ⟨h0, A, c, h1, h2, h3, h4, h5⟩ := h
  have H1 := Lib.hid h1
  have H3 := Lib.hid h3
  have hxd : (xs.drop p).length = xs.length - p := List.length_drop
  have hglt := h1.lt
  generalize hm : xs.length - p = m at *
  have Hm := Lib.hid hm
  have d0 := h1.cell 0
  have d2 := h1.cell 2
  have d3 := h1.cell 3
  have f0 := h1.frozen 0
  have f2 := h1.frozen 2
  have f3 := h1.frozen 3
  have hml : m ≤ xs.length := by omega
  clear hread h1 h3 hm hgood hxd
  go_enter Try.func75, Try.ntmps75
  go_wp2_with fail
  with_reducible refine (perr_any g xs p 0 _ H.out).mono ?_
  rintro e w' ⟨rfl, rfl⟩
  go_wp2_with fail
  with_reducible refine (Hread.out A c h2 h4 h5).mono ?_
  rintro e w1 ⟨hb1, hcase⟩
  have hblk1 := H1.out.on hb1
  have hr1 := h2.on hb1
  have k0 := hblk1.cell 0
  have k2 := hblk1.cell 2
  have j0 := hblk1.frozen 0
  have j2 := hblk1.frozen 2
  have j3 := hblk1.frozen 3
  have k3 := hblk1.cell 3
  have Hblk1 := Lib.hid hblk1
  clear hblk1 d0 d2 d3 f0 f2 f3 h2
  rcases hcase with ⟨er, z, k, her, hres, rfl⟩ | ⟨v, n, hres, hnm, hgv, rfl⟩
  · have hn : ((er : Int) == 0) = false := by simp; omega
    have hn2 : ((er : Int) != 0) = true := by simp; omega
    have Hres := Lib.hid hres
    have Her := Lib.hid her
    clear hres her
    go_wp2
    go_ret
    have hg2 := (below_grown (r := some g) hb1).trans (grown_set3 w1 g 3 (.int .i64 (er : Int)))
    refine ⟨hg2, .inl ⟨er, Her.out, Hres.out, rfl, h0, A, c, ?_, ?_, ?_, ?_, h5⟩⟩
    · rw [Hm.out]
      exact Hblk1.out.set_ 3 (.int .i64 (er : Int))
    · rw [Hm.out]
      exact hr1.other3 (grown_set3 w1 g 3 (.int .i64 (er : Int))) H3.out
    · rw [Hm.out]; exact H3.out
    · rw [Hm.out]; exact h4
  · have Hres := Lib.hid hres
    have Hgv := Lib.hid hgv
    have hnc : n ≤ c := by omega
    have hc63 : c ≤ 9223372036854775807 := by unfold maxLen at h5; omega
    have Hsum := Lib.hid (i64_sum p n (by have := Hm.out; omega))
    have hcut := hr1.cut (k := n) (cap := c) hnm h4
    rw [Nat.mul_one, u8s_drop, List.drop_drop] at hcut
    obtain ⟨A2, hA2⟩ : ∃ A2, (if c = n then A else Option.map (fun x => x.add n) A) = A2 := ⟨_, rfl⟩
    rw [hA2] at hcut
    have hpn : p + n ≤ xs.length := by have := Hm.out; omega
    have hpn2 : p + n ≤ 9223372036854775807 := by omega
    have hA2b : 0 < m - n → ∀ ad, A2 = some ad → ad.block < g := by
      intro h0' ad had
      rw [← hA2, if_neg (by omega)] at had
      obtain ⟨ad0, hA, rfl⟩ := Option.map_eq_some_iff.1 had
      rw [block_of_add]
      exact H3.out (by omega) ad0 hA
    have HA2b := Lib.hid hA2b
    clear hres hgv hA2b
    go_wp2
    go_region
    go_wp2
    go_ret
    have hg1 := below_grown (r := some g) hb1
    have hg2 := grown_set3 w1 g 0 (.slice A2 (m - n) (c - n))
    have hg3 := grown_set3 (w1.setCell ⟨g, 0, none⟩ (.slice A2 (m - n) (c - n))) g 2 (.int .i64 ((p : Int) + (n : Int)))
    have hg4 : w1.grownBy ((w1.setCell ⟨g, 0, none⟩ (.slice A2 (m - n) (c - n))).setCell ⟨g, 2, none⟩ (.int .i64 ((p : Int) + (n : Int)))).drew (some g) := (hg2.trans hg3).trans ⟨rfl, rfl, rfl, Nat.le_refl _, fun _ _ _ => rfl⟩
    have hmn : xs.length - (p + n) = m - n := by have := Hm.out; omega
    have hblk2 := ((Hblk1.out.set_ 0 (.slice A2 (m - n) (c - n))).set_ 2 (.int .i64 ((p : Int) + (n : Int)))).drew
    refine ⟨hg1.trans hg4, .inr ⟨v, n, Hres.out, Hgood.out _ _ _ Hgv.out Hblk1.out.lt hg4, rfl, hpn, hpn, A2, c - n, ?_, ?_, ?_, ?_, by omega⟩⟩
    · rw [hmn]
      have e : ((p + n : Nat) : Int) = (p : Int) + (n : Int) := by omega
      rw [e]
      exact hblk2
    · rw [hmn]
      exact hcut.other3 hg4 HA2b.out
    · rw [hmn]; exact HA2b.out
    · rw [hmn]; omega
set_option maxRecDepth 100000 in
theorem takeU_err (g : Nat) (xs : List UInt8) (p e : Nat) (F : Value) (w : World) (h : PRd w g xs p e) (he : e ≠ 0) :
    Calls Try.prog 75 #[.pointer (some ⟨g, 0, none⟩), F] w fun e' w' => e' = .returned (.int .u64 0) ∧ w = w' := by
  have H := Lib.hid h
  have hn : ((e : Int) == 0) = false := by simp; omega
  have hn2 : ((e : Int) != 0) = true := by simp; omega
  clear h he
  go_enter Try.func75, Try.ntmps75
  go_wp2_with fail
  with_reducible refine (perr_any g xs p e _ H.out).mono ?_
  rintro e w' ⟨rfl, rfl⟩
  go_wp2
  go_ret
  exact ⟨rfl, rfl⟩
set_option maxRecDepth 100000 in
set_option maxHeartbeats 2000000 in
theorem takeI_any (g : Nat) (xs : List UInt8) (p : Nat) (res : Except Nat Nat) (Good : Value → World → Prop)  (w : World) (h : PRd w g xs p 0) (hl : xs.length ≤ 9223372036854775807) (hgood : ∀ v w1 w2, Good v w1 → g < w1.heap.size → w1.grownBy w2 (some g) → Good v w2)
    (hread : ∀ (A : Option Addr) (c : Nat), Reads w w.heap.size 1 A (xs.length - p) (u8s (xs.drop p)) → xs.length - p ≤ c → c ≤ maxLen → Calls Try.prog 77 #[.slice A (xs.length - p) c] w (ReadP res (xs.length - p) Good w)) :
    Calls Try.prog 76 #[.pointer (some ⟨g, 0, none⟩), .func (.func 77) #[] #[]] w (TakeP g xs p res (.int .i64 0) Good w) := by
  have Hread := Lib.hid hread
  have Hgood := Lib.hid hgood
  have H := Lib.hid h
  obtain ⟨h0, A, c, h1, h2, h3, h4, h5⟩ := h
  have H1 := Lib.hid h1
  have H3 := Lib.hid h3
  have hxd : (xs.drop p).length = xs.length - p := List.length_drop
  have hglt := h1.lt
  generalize hm : xs.length - p = m at *
  have Hm := Lib.hid hm
  have d0 := h1.cell 0
  have d2 := h1.cell 2
  have d3 := h1.cell 3
  have f0 := h1.frozen 0
  have f2 := h1.frozen 2
  have f3 := h1.frozen 3
  have hml : m ≤ xs.length := by omega
  clear hread h1 h3 hm hgood hxd
  go_enter Try.func76, Try.ntmps76
  go_wp2_with fail
  with_reducible refine (perr_any g xs p 0 _ H.out).mono ?_
  rintro e w' ⟨rfl, rfl⟩
  go_wp2_with fail
  with_reducible refine (Hread.out A c h2 h4 h5).mono ?_
  rintro e w1 ⟨hb1, hcase⟩
  have hblk1 := H1.out.on hb1
  have hr1 := h2.on hb1
  have k0 := hblk1.cell 0
  have k2 := hblk1.cell 2
  have j0 := hblk1.frozen 0
  have j2 := hblk1.frozen 2
  have j3 := hblk1.frozen 3
  have k3 := hblk1.cell 3
  have Hblk1 := Lib.hid hblk1
  clear hblk1 d0 d2 d3 f0 f2 f3 h2
  rcases hcase with ⟨er, z, k, her, hres, rfl⟩ | ⟨v, n, hres, hnm, hgv, rfl⟩
  · have hn : ((er : Int) == 0) = false := by simp; omega
    have hn2 : ((er : Int) != 0) = true := by simp; omega
    have Hres := Lib.hid hres
    have Her := Lib.hid her
    clear hres her
    go_wp2
    go_ret
    have hg2 := (below_grown (r := some g) hb1).trans (grown_set3 w1 g 3 (.int .i64 (er : Int)))
    refine ⟨hg2, .inl ⟨er, Her.out, Hres.out, rfl, h0, A, c, ?_, ?_, ?_, ?_, h5⟩⟩
    · rw [Hm.out]
      exact Hblk1.out.set_ 3 (.int .i64 (er : Int))
    · rw [Hm.out]
      exact hr1.other3 (grown_set3 w1 g 3 (.int .i64 (er : Int))) H3.out
    · rw [Hm.out]; exact H3.out
    · rw [Hm.out]; exact h4
  · have Hres := Lib.hid hres
    have Hgv := Lib.hid hgv
    have hnc : n ≤ c := by omega
    have hc63 : c ≤ 9223372036854775807 := by unfold maxLen at h5; omega
    have Hsum := Lib.hid (i64_sum p n (by have := Hm.out; omega))
    have hcut := hr1.cut (k := n) (cap := c) hnm h4
    rw [Nat.mul_one, u8s_drop, List.drop_drop] at hcut
    obtain ⟨A2, hA2⟩ : ∃ A2, (if c = n then A else Option.map (fun x => x.add n) A) = A2 := ⟨_, rfl⟩
    rw [hA2] at hcut
    have hpn : p + n ≤ xs.length := by have := Hm.out; omega
    have hpn2 : p + n ≤ 9223372036854775807 := by omega
    have hA2b : 0 < m - n → ∀ ad, A2 = some ad → ad.block < g := by
      intro h0' ad had
      rw [← hA2, if_neg (by omega)] at had
      obtain ⟨ad0, hA, rfl⟩ := Option.map_eq_some_iff.1 had
      rw [block_of_add]
      exact H3.out (by omega) ad0 hA
    have HA2b := Lib.hid hA2b
    clear hres hgv hA2b
    go_wp2
    go_region
    go_wp2
    go_ret
    have hg1 := below_grown (r := some g) hb1
    have hg2 := grown_set3 w1 g 0 (.slice A2 (m - n) (c - n))
    have hg3 := grown_set3 (w1.setCell ⟨g, 0, none⟩ (.slice A2 (m - n) (c - n))) g 2 (.int .i64 ((p : Int) + (n : Int)))
    have hg4 : w1.grownBy ((w1.setCell ⟨g, 0, none⟩ (.slice A2 (m - n) (c - n))).setCell ⟨g, 2, none⟩ (.int .i64 ((p : Int) + (n : Int)))).drew (some g) := (hg2.trans hg3).trans ⟨rfl, rfl, rfl, Nat.le_refl _, fun _ _ _ => rfl⟩
    have hmn : xs.length - (p + n) = m - n := by have := Hm.out; omega
    have hblk2 := ((Hblk1.out.set_ 0 (.slice A2 (m - n) (c - n))).set_ 2 (.int .i64 ((p : Int) + (n : Int)))).drew
    refine ⟨hg1.trans hg4, .inr ⟨v, n, Hres.out, Hgood.out _ _ _ Hgv.out Hblk1.out.lt hg4, rfl, hpn, hpn, A2, c - n, ?_, ?_, ?_, ?_, by omega⟩⟩
    · rw [hmn]
      have e : ((p + n : Nat) : Int) = (p : Int) + (n : Int) := by omega
      rw [e]
      exact hblk2
    · rw [hmn]
      exact hcut.other3 hg4 HA2b.out
    · rw [hmn]; exact HA2b.out
    · rw [hmn]; omega
set_option maxRecDepth 100000 in
theorem takeI_err (g : Nat) (xs : List UInt8) (p e : Nat) (F : Value) (w : World) (h : PRd w g xs p e) (he : e ≠ 0) :
    Calls Try.prog 76 #[.pointer (some ⟨g, 0, none⟩), F] w fun e' w' => e' = .returned (.int .i64 0) ∧ w = w' := by
  have H := Lib.hid h
  have hn : ((e : Int) == 0) = false := by simp; omega
  have hn2 : ((e : Int) != 0) = true := by simp; omega
  clear h he
  go_enter Try.func76, Try.ntmps76
  go_wp2_with fail
  with_reducible refine (perr_any g xs p e _ H.out).mono ?_
  rintro e w' ⟨rfl, rfl⟩
  go_wp2
  go_ret
  exact ⟨rfl, rfl⟩
set_option maxRecDepth 100000 in
set_option maxHeartbeats 2000000 in
theorem takeB_any (g : Nat) (xs : List UInt8) (p : Nat) (res : Except Nat Nat) (Good : Value → World → Prop) (ca : Addr) (w : World) (h : PRd w g xs p 0) (hl : xs.length ≤ 9223372036854775807) (hgood : ∀ v w1 w2, Good v w1 → g < w1.heap.size → w1.grownBy w2 (some g) → Good v w2)
    (hread : ∀ (A : Option Addr) (c : Nat), Reads w w.heap.size 1 A (xs.length - p) (u8s (xs.drop p)) → xs.length - p ≤ c → c ≤ maxLen → Calls Try.prog 80 #[.slice A (xs.length - p) c, .pointer (some ca)] w (ReadP res (xs.length - p) Good w)) :
    Calls Try.prog 64 #[.pointer (some ⟨g, 0, none⟩), .func (.func 80) #[] #[.pointer (some ca)]] w (TakeP g xs p res (.slice none 0 0) Good w) := by
  have Hread := Lib.hid hread
  have Hgood := Lib.hid hgood
  have H := Lib.hid h
  obtain ⟨h0, A, c, h1, h2, h3, h4, h5⟩ := h
  have H1 := Lib.hid h1
  have H3 := Lib.hid h3
  have hxd : (xs.drop p).length = xs.length - p := List.length_drop
  have hglt := h1.lt
  generalize hm : xs.length - p = m at *
  have Hm := Lib.hid hm
  have d0 := h1.cell 0
  have d2 := h1.cell 2
  have d3 := h1.cell 3
  have f0 := h1.frozen 0
  have f2 := h1.frozen 2
  have f3 := h1.frozen 3
  have hml : m ≤ xs.length := by omega
  clear hread h1 h3 hm hgood hxd
  go_enter Try.func64, Try.ntmps64
  go_wp2_with fail
  with_reducible refine (perr_any g xs p 0 _ H.out).mono ?_
  rintro e w' ⟨rfl, rfl⟩
  go_wp2_with fail
  with_reducible refine (Hread.out A c h2 h4 h5).mono ?_
  rintro e w1 ⟨hb1, hcase⟩
  have hblk1 := H1.out.on hb1
  have hr1 := h2.on hb1
  have k0 := hblk1.cell 0
  have k2 := hblk1.cell 2
  have j0 := hblk1.frozen 0
  have j2 := hblk1.frozen 2
  have j3 := hblk1.frozen 3
  have k3 := hblk1.cell 3
  have Hblk1 := Lib.hid hblk1
  clear hblk1 d0 d2 d3 f0 f2 f3 h2
  rcases hcase with ⟨er, z, k, her, hres, rfl⟩ | ⟨v, n, hres, hnm, hgv, rfl⟩
  · have hn : ((er : Int) == 0) = false := by simp; omega
    have hn2 : ((er : Int) != 0) = true := by simp; omega
    have Hres := Lib.hid hres
    have Her := Lib.hid her
    clear hres her
    go_wp2
    go_ret
    have hg2 := (below_grown (r := some g) hb1).trans (grown_set3 w1 g 3 (.int .i64 (er : Int)))
    refine ⟨hg2, .inl ⟨er, Her.out, Hres.out, rfl, h0, A, c, ?_, ?_, ?_, ?_, h5⟩⟩
    · rw [Hm.out]
      exact Hblk1.out.set_ 3 (.int .i64 (er : Int))
    · rw [Hm.out]
      exact hr1.other3 (grown_set3 w1 g 3 (.int .i64 (er : Int))) H3.out
    · rw [Hm.out]; exact H3.out
    · rw [Hm.out]; exact h4
  · have Hres := Lib.hid hres
    have Hgv := Lib.hid hgv
    have hnc : n ≤ c := by omega
    have hc63 : c ≤ 9223372036854775807 := by unfold maxLen at h5; omega
    have Hsum := Lib.hid (i64_sum p n (by have := Hm.out; omega))
    have hcut := hr1.cut (k := n) (cap := c) hnm h4
    rw [Nat.mul_one, u8s_drop, List.drop_drop] at hcut
    obtain ⟨A2, hA2⟩ : ∃ A2, (if c = n then A else Option.map (fun x => x.add n) A) = A2 := ⟨_, rfl⟩
    rw [hA2] at hcut
    have hpn : p + n ≤ xs.length := by have := Hm.out; omega
    have hpn2 : p + n ≤ 9223372036854775807 := by omega
    have hA2b : 0 < m - n → ∀ ad, A2 = some ad → ad.block < g := by
      intro h0' ad had
      rw [← hA2, if_neg (by omega)] at had
      obtain ⟨ad0, hA, rfl⟩ := Option.map_eq_some_iff.1 had
      rw [block_of_add]
      exact H3.out (by omega) ad0 hA
    have HA2b := Lib.hid hA2b
    clear hres hgv hA2b
    go_wp2
    go_region
    go_wp2
    go_ret
    have hg1 := below_grown (r := some g) hb1
    have hg2 := grown_set3 w1 g 0 (.slice A2 (m - n) (c - n))
    have hg3 := grown_set3 (w1.setCell ⟨g, 0, none⟩ (.slice A2 (m - n) (c - n))) g 2 (.int .i64 ((p : Int) + (n : Int)))
    have hg4 : w1.grownBy ((w1.setCell ⟨g, 0, none⟩ (.slice A2 (m - n) (c - n))).setCell ⟨g, 2, none⟩ (.int .i64 ((p : Int) + (n : Int)))).drew (some g) := (hg2.trans hg3).trans ⟨rfl, rfl, rfl, Nat.le_refl _, fun _ _ _ => rfl⟩
    have hmn : xs.length - (p + n) = m - n := by have := Hm.out; omega
    have hblk2 := ((Hblk1.out.set_ 0 (.slice A2 (m - n) (c - n))).set_ 2 (.int .i64 ((p : Int) + (n : Int)))).drew
    refine ⟨hg1.trans hg4, .inr ⟨v, n, Hres.out, Hgood.out _ _ _ Hgv.out Hblk1.out.lt hg4, rfl, hpn, hpn, A2, c - n, ?_, ?_, ?_, ?_, by omega⟩⟩
    · rw [hmn]
      have e : ((p + n : Nat) : Int) = (p : Int) + (n : Int) := by omega
      rw [e]
      exact hblk2
    · rw [hmn]
      exact hcut.other3 hg4 HA2b.out
    · rw [hmn]; exact HA2b.out
    · rw [hmn]; omega
set_option maxRecDepth 100000 in
theorem takeB_err (g : Nat) (xs : List UInt8) (p e : Nat) (F : Value) (w : World) (h : PRd w g xs p e) (he : e ≠ 0) :
    Calls Try.prog 64 #[.pointer (some ⟨g, 0, none⟩), F] w fun e' w' => e' = .returned (.slice none 0 0) ∧ w = w' := by
  have H := Lib.hid h
  have hn : ((e : Int) == 0) = false := by simp; omega
  have hn2 : ((e : Int) != 0) = true := by simp; omega
  clear h he
  go_enter Try.func64, Try.ntmps64
  go_wp2_with fail
  with_reducible refine (perr_any g xs p e _ H.out).mono ?_
  rintro e w' ⟨rfl, rfl⟩
  go_wp2
  go_ret
  exact ⟨rfl, rfl⟩
set_option maxRecDepth 100000 in
set_option maxHeartbeats 2000000 in
theorem takeT_any (g : Nat) (xs : List UInt8) (p : Nat) (res : Except Nat Nat) (Good : Value → World → Prop) (ca : Addr) (w : World) (h : PRd w g xs p 0) (hl : xs.length ≤ 9223372036854775807) (hgood : ∀ v w1 w2, Good v w1 → g < w1.heap.size → w1.grownBy w2 (some g) → Good v w2)
    (hread : ∀ (A : Option Addr) (c : Nat), Reads w w.heap.size 1 A (xs.length - p) (u8s (xs.drop p)) → xs.length - p ≤ c → c ≤ maxLen → Calls Try.prog 73 #[.slice A (xs.length - p) c, .pointer (some ca)] w (ReadP res (xs.length - p) Good w)) :
    Calls Try.prog 72 #[.pointer (some ⟨g, 0, none⟩), .func (.func 73) #[] #[.pointer (some ca)]] w (TakeP g xs p res (.string ⟨#[]⟩) Good w) := by
  have Hread := Lib.hid hread
  have Hgood := Lib.hid hgood
  have H := Lib.hid h
  obtain ⟨h0, A, c, h1, h2, h3, h4, h5⟩ := h
  have H1 := Lib.hid h1
  have H3 := Lib.hid h3
  have hxd : (xs.drop p).length = xs.length - p := List.length_drop
  have hglt := h1.lt
  generalize hm : xs.length - p = m at *
  have Hm := Lib.hid hm
  have d0 := h1.cell 0
  have d2 := h1.cell 2
  have d3 := h1.cell 3
  have f0 := h1.frozen 0
  have f2 := h1.frozen 2
  have f3 := h1.frozen 3
  have hml : m ≤ xs.length := by omega
  clear hread h1 h3 hm hgood hxd
  go_enter Try.func72, Try.ntmps72
  go_wp2_with fail
  with_reducible refine (perr_any g xs p 0 _ H.out).mono ?_
  rintro e w' ⟨rfl, rfl⟩
  go_wp2_with fail
  with_reducible refine (Hread.out A c h2 h4 h5).mono ?_
  rintro e w1 ⟨hb1, hcase⟩
  have hblk1 := H1.out.on hb1
  have hr1 := h2.on hb1
  have k0 := hblk1.cell 0
  have k2 := hblk1.cell 2
  have j0 := hblk1.frozen 0
  have j2 := hblk1.frozen 2
  have j3 := hblk1.frozen 3
  have k3 := hblk1.cell 3
  have Hblk1 := Lib.hid hblk1
  clear hblk1 d0 d2 d3 f0 f2 f3 h2
  rcases hcase with ⟨er, z, k, her, hres, rfl⟩ | ⟨v, n, hres, hnm, hgv, rfl⟩
  · have hn : ((er : Int) == 0) = false := by simp; omega
    have hn2 : ((er : Int) != 0) = true := by simp; omega
    have Hres := Lib.hid hres
    have Her := Lib.hid her
    clear hres her
    go_wp2
    go_ret
    have hg2 := (below_grown (r := some g) hb1).trans (grown_set3 w1 g 3 (.int .i64 (er : Int)))
    refine ⟨hg2, .inl ⟨er, Her.out, Hres.out, rfl, h0, A, c, ?_, ?_, ?_, ?_, h5⟩⟩
    · rw [Hm.out]
      exact Hblk1.out.set_ 3 (.int .i64 (er : Int))
    · rw [Hm.out]
      exact hr1.other3 (grown_set3 w1 g 3 (.int .i64 (er : Int))) H3.out
    · rw [Hm.out]; exact H3.out
    · rw [Hm.out]; exact h4
  · have Hres := Lib.hid hres
    have Hgv := Lib.hid hgv
    have hnc : n ≤ c := by omega
    have hc63 : c ≤ 9223372036854775807 := by unfold maxLen at h5; omega
    have Hsum := Lib.hid (i64_sum p n (by have := Hm.out; omega))
    have hcut := hr1.cut (k := n) (cap := c) hnm h4
    rw [Nat.mul_one, u8s_drop, List.drop_drop] at hcut
    obtain ⟨A2, hA2⟩ : ∃ A2, (if c = n then A else Option.map (fun x => x.add n) A) = A2 := ⟨_, rfl⟩
    rw [hA2] at hcut
    have hpn : p + n ≤ xs.length := by have := Hm.out; omega
    have hpn2 : p + n ≤ 9223372036854775807 := by omega
    have hA2b : 0 < m - n → ∀ ad, A2 = some ad → ad.block < g := by
      intro h0' ad had
      rw [← hA2, if_neg (by omega)] at had
      obtain ⟨ad0, hA, rfl⟩ := Option.map_eq_some_iff.1 had
      rw [block_of_add]
      exact H3.out (by omega) ad0 hA
    have HA2b := Lib.hid hA2b
    clear hres hgv hA2b
    go_wp2
    go_region
    go_wp2
    go_ret
    have hg1 := below_grown (r := some g) hb1
    have hg2 := grown_set3 w1 g 0 (.slice A2 (m - n) (c - n))
    have hg3 := grown_set3 (w1.setCell ⟨g, 0, none⟩ (.slice A2 (m - n) (c - n))) g 2 (.int .i64 ((p : Int) + (n : Int)))
    have hg4 : w1.grownBy ((w1.setCell ⟨g, 0, none⟩ (.slice A2 (m - n) (c - n))).setCell ⟨g, 2, none⟩ (.int .i64 ((p : Int) + (n : Int)))).drew (some g) := (hg2.trans hg3).trans ⟨rfl, rfl, rfl, Nat.le_refl _, fun _ _ _ => rfl⟩
    have hmn : xs.length - (p + n) = m - n := by have := Hm.out; omega
    have hblk2 := ((Hblk1.out.set_ 0 (.slice A2 (m - n) (c - n))).set_ 2 (.int .i64 ((p : Int) + (n : Int)))).drew
    refine ⟨hg1.trans hg4, .inr ⟨v, n, Hres.out, Hgood.out _ _ _ Hgv.out Hblk1.out.lt hg4, rfl, hpn, hpn, A2, c - n, ?_, ?_, ?_, ?_, by omega⟩⟩
    · rw [hmn]
      have e : ((p + n : Nat) : Int) = (p : Int) + (n : Int) := by omega
      rw [e]
      exact hblk2
    · rw [hmn]
      exact hcut.other3 hg4 HA2b.out
    · rw [hmn]; exact HA2b.out
    · rw [hmn]; omega
set_option maxRecDepth 100000 in
theorem takeT_err (g : Nat) (xs : List UInt8) (p e : Nat) (F : Value) (w : World) (h : PRd w g xs p e) (he : e ≠ 0) :
    Calls Try.prog 72 #[.pointer (some ⟨g, 0, none⟩), F] w fun e' w' => e' = .returned (.string ⟨#[]⟩) ∧ w = w' := by
  have H := Lib.hid h
  have hn : ((e : Int) == 0) = false := by simp; omega
  have hn2 : ((e : Int) != 0) = true := by simp; omega
  clear h he
  go_enter Try.func72, Try.ntmps72
  go_wp2_with fail
  with_reducible refine (perr_any g xs p e _ H.out).mono ?_
  rintro e w' ⟨rfl, rfl⟩
  go_wp2
  go_ret
  exact ⟨rfl, rfl⟩
end Go.Proofs.Ytnkkhplddjopnaa
