/- Layer 15, walked: the laws' helpers joins, gets, works. -/
import Derived.Test.YtckaohkhknoocaaDictJoinR
import Derived.Test.YtckaohkhknoocaaDictGetR
import Derived.Test.YtckaohkhknoocaaDictPutR
set_option linter.unusedVariables false
set_option linter.unusedSimpArgs false
namespace Go.Proofs.Ytckaohkhknoocaa
open Go.RowKit
theorem reads_t0 {w : World} {B : Nat} {A : Option Addr} : Reads w B 1 A 0 (txs []) := Reads.none_
theorem reads_u0 {w : World} {B : Nat} {A : Option Addr} : Reads w B 1 A 0 (u8s []) := Reads.none_
theorem reads_i0 {w : World} {B : Nat} {A : Option Addr} : Reads w B 1 A 0 (ins []) := Reads.none_
theorem nat_le_max (n : Nat) (h : n ≤ 1099511627776) : n ≤ maxLen := by simp only [maxLen]; omega
set_option maxRecDepth 100000 in
set_option maxHeartbeats 400000 in
theorem joins_yes (A : Option Addr) (m c : Nat) (d : List ByteArray) (B : Option Addr) (n c2 : Nat) (xs : List Int) (C : Option Addr) (p c3 : Nat) (want : List ByteArray) (er : Int) (w : World) (hr : Reads w w.heap.size 1 A m (txs d)) (hr2 : Reads w w.heap.size 1 B n (ins xs)) (hr3 : Reads w w.heap.size 1 C p (txs want))
    (hm : m ≤ 1099511627776) (hn : n ≤ 1099511627776) (hp : p ≤ 1099511627776) (hsz : ∀ s ∈ d, s.size ≤ maxLen) (hb : ∀ x ∈ xs, -9223372036854775808 ≤ x ∧ x ≤ 9223372036854775807) (h : (joinI d xs).getD [] = want ∧ (if (joinI d xs).isSome then (0 : Int) else 150) = er) :
    Calls Try.prog 29 #[.slice A m c, .slice B n c2, .int .i64 er, .slice C p c3] w fun e w' => e = .returned (.bool true) ∧ Below w.heap.size w w' := by
  have Hsz := Lib.hid hsz
  have Hb := Lib.hid hb
  have H := Lib.hid h
  clear hsz hb h
  go_enter Try.func29, Try.ntmps29
  go_wp2_with fail
  with_reducible refine (join_any A m c d B n c2 xs _ hr hm Hsz.out hr2 hn Hb.out).mono ?_
  rintro e w1 ⟨A1, c1, rfl, g1, g2, o1, hb1⟩
  have r1 := own_reads o1
  rw [H.out.2]
  rw [H.out.1] at r1 g1 ⊢
  clear o1
  go_wp2_with fail
  with_reducible refine (eqTexts_yes A1 C want.length c1 p c3 want want _ r1 (hr3.on hb1) (Nat.le_trans g1 g2) (nat_le_max _ hp) rfl).mono ?_
  rintro e w2 ⟨rfl, hb2⟩
  go_wp2
  go_ret
  exact ⟨by simp, by repeat (first | exact Below.refl _ _ | assumption | refine bal ?_ _ | refine Below.drew ?_ | refine bon ?_ (by assumption))⟩
set_option maxRecDepth 100000 in
set_option maxHeartbeats 400000 in
theorem gets_ok (A : Option Addr) (l c : Nat) (xs : List UInt8) (n most : Int) (C : Option Addr) (p c3 : Nat) (want : List ByteArray) (k : Nat) (size : Int) (w : World) (hr : Reads w w.heap.size 1 A l (u8s xs)) (hl : l ≤ c) (hc : c ≤ maxLen) (hr3 : Reads w w.heap.size 1 C p (txs want))
    (hn1 : -9223372036854775808 ≤ n) (hn2 : n ≤ 9223372036854775807) (hm : most ≤ 9223372036854775807) (hp : p ≤ 1099511627776) (h : getDI xs n most = .ok (want, k)) (hk : (k : Int) = size) :
    Calls Try.prog 30 #[.slice A l c, .int .i64 n, .int .i64 most, .int .i64 size, .int .i64 0, .slice C p c3] w fun e w' => e = .returned (.bool true) ∧ Below w.heap.size w w' := by
  subst hk
  have H := Lib.hid h
  have Hn1 := Lib.hid hn1
  have Hn2 := Lib.hid hn2
  have Hm := Lib.hid hm
  clear h hn1 hn2 hm
  go_enter Try.func30, Try.ntmps30
  go_wp2_with fail
  with_reducible refine (dget_any A l c xs n most _ hr hl hc Hn1.out Hn2.out Hm.out).mono ?_
  rw [H.out]
  rintro e w1 ⟨hb1, A1, c1, rfl, g1, g2, o1⟩
  have r1 := own_reads o1
  clear o1
  go_wp2_with fail
  with_reducible refine (eqTexts_yes A1 C want.length c1 p c3 want want _ r1 (hr3.on hb1) (Nat.le_trans g1 g2) (nat_le_max _ hp) rfl).mono ?_
  rintro e w2 ⟨rfl, hb2⟩
  go_wp2
  go_ret
  exact ⟨by simp, by repeat (first | exact Below.refl _ _ | assumption | refine bal ?_ _ | refine Below.drew ?_ | refine bon ?_ (by assumption))⟩
set_option maxRecDepth 100000 in
set_option maxHeartbeats 400000 in
theorem gets_err (A : Option Addr) (l c : Nat) (xs : List UInt8) (n most : Int) (k : Nat) (er : Int) (w : World) (hr : Reads w w.heap.size 1 A l (u8s xs)) (hl : l ≤ c) (hc : c ≤ maxLen)
    (hn1 : -9223372036854775808 ≤ n) (hn2 : n ≤ 9223372036854775807) (hm : most ≤ 9223372036854775807) (h : getDI xs n most = .error k) (hk : (k : Int) = er) :
    Calls Try.prog 30 #[.slice A l c, .int .i64 n, .int .i64 most, .int .i64 0, .int .i64 er, .slice none 0 0] w fun e w' => e = .returned (.bool true) ∧ Below w.heap.size w w' := by
  subst hk
  have H := Lib.hid h
  have Hn1 := Lib.hid hn1
  have Hn2 := Lib.hid hn2
  have Hm := Lib.hid hm
  clear h hn1 hn2 hm
  go_enter Try.func30, Try.ntmps30
  go_wp2_with fail
  with_reducible refine (dget_any A l c xs n most _ hr hl hc Hn1.out Hn2.out Hm.out).mono ?_
  rw [H.out]
  rintro e w1 ⟨hb1, rfl⟩
  go_wp2_with fail
  with_reducible refine (eqTexts_yes none none 0 0 0 0 [] [] _ Reads.none_ Reads.none_ (by decide) (by decide) rfl).mono ?_
  rintro e w2 ⟨rfl, hb2⟩
  go_wp2
  go_ret
  exact ⟨by simp, by repeat (first | exact Below.refl _ _ | assumption | refine bal ?_ _ | refine Below.drew ?_ | refine bon ?_ (by assumption))⟩
theorem split_lit (A : Option Addr) (n c : Nat) (l d : List ByteArray) (ns : List Nat) (zs : List Int) (nd : Nat) (w : World) (hr : Reads w w.heap.size 1 A n (txs l)) (hn : n ≤ 1099511627776) (hsz : ∀ s ∈ l, s.size ≤ maxLen) (h : splitL l = (d, ns)) (hz : ns.map Int.ofNat = zs) (hnd : d.length = nd) :
    Calls Try.prog 13 #[.slice A n c] w fun e w' => ∃ (A1 : Option Addr) (c1 : Nat) (A2 : Option Addr) (c2 : Nat), e = .returned (.tuple #[.slice A1 nd c1, .slice A2 n c2]) ∧
      Reads w' w'.heap.size 1 A1 nd (txs d) ∧ Reads w' w'.heap.size 1 A2 n (ins zs) ∧ Below w.heap.size w w' := by
  refine (split_any A n c l w hr hn hsz).mono ?_
  rintro e w1 ⟨A1, c1, A2, c2, rfl, g1, g2, g3, g4, o1, o2, hb⟩
  have hl := tlen hr
  subst hz hnd
  rw [h] at o1 o2 ⊢
  rw [hl] at o2 ⊢
  have r2 := own_reads o2
  rw [nns_ins] at r2
  exact ⟨A1, c1, A2, c2, rfl, own_reads o1, r2, hb⟩
theorem put_lit (B : Option Addr) (m c2 : Nat) (l : List ByteArray) (bs : List UInt8) (nb : Nat) (w : World) (hr2 : Reads w w.heap.size 1 B m (txs l)) (hm : m ≤ 1099511627776) (hsz : ∀ s ∈ l, s.size ≤ maxLen) (hbs : nb ≤ 1099511627776) (h : putD l = bs) (hnb : bs.length = nb) :
    Calls Try.prog 18 #[.slice none 0 0, .slice B m c2] w fun e w' => ∃ (A : Option Addr) (c : Nat), e = .returned (.slice A nb c) ∧ nb ≤ c ∧ c ≤ maxLen ∧ Reads w' w'.heap.size 1 A nb (u8s bs) ∧ Below w.heap.size w w' := by
  subst h hnb
  refine (dput_any none 0 0 [] B m c2 l w Reads.none_ (Nat.le_refl _) (by decide) hr2 hm hsz hbs).mono ?_
  rintro e w1 ⟨A1, c1, rfl, g1, g2, o1, hb⟩
  exact ⟨A1, c1, rfl, g1, g2, own_reads o1, hb⟩
theorem small_texts (l : List ByteArray) (h : l.all (fun s => decide (s.size ≤ 1000)) = true) : ∀ s ∈ l, s.size ≤ maxLen := by
  intro s hs
  have := of_decide_eq_true (List.all_eq_true.1 h s hs)
  simp only [maxLen]
  omega
theorem small_ints (l : List Int) (h : l.all (fun x => decide (-9223372036854775808 ≤ x) && decide (x ≤ 9223372036854775807)) = true) : ∀ x ∈ l, -9223372036854775808 ≤ x ∧ x ≤ 9223372036854775807 := by
  intro x hx
  have := List.all_eq_true.1 h x hx
  simpa using this
def tB : ByteArray := ⟨#[98]⟩
def tA : ByteArray := ⟨#[97]⟩
def tE : ByteArray := ⟨#[]⟩
set_option maxRecDepth 100000 in
set_option maxHeartbeats 2000000 in
theorem dworks_any (w : World) :
    Calls Try.prog 20 #[] w fun e w' => e = .returned (.bool true) ∧ Below w.heap.size w w' := by
  go_enter Try.func20, Try.ntmps20
  go_wp2_with fail
  with_reducible refine (split_lit _ _ _ [tB, tA, tB, tE, tA] [tB, tA, tE] [0, 1, 0, 2, 1] [0, 1, 0, 2, 1] 3 _ (by exact reads_lit _ _ _ _ _ _ (by simp) rfl rfl) (by decide) (small_texts _ (by decide +kernel)) (by decide +kernel) rfl rfl).mono ?_
  rintro e w1 ⟨A1, c1, A2, c2, rfl, r1, r2, hb1⟩
  go_wp2_with fail
  with_reducible refine (eqTexts_yes _ _ _ _ _ _ [tB, tA, tE] [tB, tA, tE] _ (by repeat (first | exact reads_lit _ _ _ _ _ _ (by simp) rfl rfl | assumption | exact Reads.none_ | exact reads_t0 | exact reads_u0 | exact reads_i0 | refine Reads.al ?_ _ | refine Reads.drew ?_ | refine Reads.on ?_ (by assumption))) (by repeat (first | exact reads_lit _ _ _ _ _ _ (by simp) rfl rfl | assumption | exact Reads.none_ | exact reads_t0 | exact reads_u0 | exact reads_i0 | refine Reads.al ?_ _ | refine Reads.drew ?_ | refine Reads.on ?_ (by assumption))) (by decide) (by decide) rfl).mono ?_
  rintro e w2 ⟨rfl, hb2⟩
  go_wp2_with fail
  with_reducible refine (eqInts_yes _ _ _ _ _ _ [0, 1, 0, 2, 1] [0, 1, 0, 2, 1] _ (by repeat (first | exact reads_lit _ _ _ _ _ _ (by simp) rfl rfl | assumption | exact Reads.none_ | exact reads_t0 | exact reads_u0 | exact reads_i0 | refine Reads.al ?_ _ | refine Reads.drew ?_ | refine Reads.on ?_ (by assumption))) (by repeat (first | exact reads_lit _ _ _ _ _ _ (by simp) rfl rfl | assumption | exact Reads.none_ | exact reads_t0 | exact reads_u0 | exact reads_i0 | refine Reads.al ?_ _ | refine Reads.drew ?_ | refine Reads.on ?_ (by assumption))) (by decide) (by decide) rfl).mono ?_
  rintro e w3 ⟨rfl, hb3⟩
  go_wp2_with fail
  with_reducible refine (joins_yes _ _ _ [tB, tA] _ _ _ [0, 1, 1] _ _ _ [tB, tA, tA] 0 _ (by repeat (first | exact reads_lit _ _ _ _ _ _ (by simp) rfl rfl | assumption | exact Reads.none_ | exact reads_t0 | exact reads_u0 | exact reads_i0 | refine Reads.al ?_ _ | refine Reads.drew ?_ | refine Reads.on ?_ (by assumption))) (by repeat (first | exact reads_lit _ _ _ _ _ _ (by simp) rfl rfl | assumption | exact Reads.none_ | exact reads_t0 | exact reads_u0 | exact reads_i0 | refine Reads.al ?_ _ | refine Reads.drew ?_ | refine Reads.on ?_ (by assumption))) (by repeat (first | exact reads_lit _ _ _ _ _ _ (by simp) rfl rfl | assumption | exact Reads.none_ | exact reads_t0 | exact reads_u0 | exact reads_i0 | refine Reads.al ?_ _ | refine Reads.drew ?_ | refine Reads.on ?_ (by assumption))) (by decide) (by decide) (by decide) (small_texts _ (by decide +kernel)) (small_ints _ (by decide +kernel)) (by decide +kernel)).mono ?_
  rintro e w4 ⟨rfl, hb4⟩
  go_wp2_with fail
  with_reducible refine (joins_yes _ _ _ [tB, tA] _ _ _ [1, 0] _ _ _ [] 150 _ (by repeat (first | exact reads_lit _ _ _ _ _ _ (by simp) rfl rfl | assumption | exact Reads.none_ | exact reads_t0 | exact reads_u0 | exact reads_i0 | refine Reads.al ?_ _ | refine Reads.drew ?_ | refine Reads.on ?_ (by assumption))) (by repeat (first | exact reads_lit _ _ _ _ _ _ (by simp) rfl rfl | assumption | exact Reads.none_ | exact reads_t0 | exact reads_u0 | exact reads_i0 | refine Reads.al ?_ _ | refine Reads.drew ?_ | refine Reads.on ?_ (by assumption))) (by repeat (first | exact reads_lit _ _ _ _ _ _ (by simp) rfl rfl | assumption | exact Reads.none_ | exact reads_t0 | exact reads_u0 | exact reads_i0 | refine Reads.al ?_ _ | refine Reads.drew ?_ | refine Reads.on ?_ (by assumption))) (by decide) (by decide) (by decide) (small_texts _ (by decide +kernel)) (small_ints _ (by decide +kernel)) (by decide +kernel)).mono ?_
  rintro e w5 ⟨rfl, hb5⟩
  go_wp2_with fail
  with_reducible refine (joins_yes _ _ _ [tB, tA] _ _ _ [0, 0] _ _ _ [] 150 _ (by repeat (first | exact reads_lit _ _ _ _ _ _ (by simp) rfl rfl | assumption | exact Reads.none_ | exact reads_t0 | exact reads_u0 | exact reads_i0 | refine Reads.al ?_ _ | refine Reads.drew ?_ | refine Reads.on ?_ (by assumption))) (by repeat (first | exact reads_lit _ _ _ _ _ _ (by simp) rfl rfl | assumption | exact Reads.none_ | exact reads_t0 | exact reads_u0 | exact reads_i0 | refine Reads.al ?_ _ | refine Reads.drew ?_ | refine Reads.on ?_ (by assumption))) (by repeat (first | exact reads_lit _ _ _ _ _ _ (by simp) rfl rfl | assumption | exact Reads.none_ | exact reads_t0 | exact reads_u0 | exact reads_i0 | refine Reads.al ?_ _ | refine Reads.drew ?_ | refine Reads.on ?_ (by assumption))) (by decide) (by decide) (by decide) (small_texts _ (by decide +kernel)) (small_ints _ (by decide +kernel)) (by decide +kernel)).mono ?_
  rintro e w6 ⟨rfl, hb6⟩
  go_wp2_with fail
  with_reducible refine (joins_yes _ _ _ [tB, tB] _ _ _ [0, 1] _ _ _ [] 150 _ (by repeat (first | exact reads_lit _ _ _ _ _ _ (by simp) rfl rfl | assumption | exact Reads.none_ | exact reads_t0 | exact reads_u0 | exact reads_i0 | refine Reads.al ?_ _ | refine Reads.drew ?_ | refine Reads.on ?_ (by assumption))) (by repeat (first | exact reads_lit _ _ _ _ _ _ (by simp) rfl rfl | assumption | exact Reads.none_ | exact reads_t0 | exact reads_u0 | exact reads_i0 | refine Reads.al ?_ _ | refine Reads.drew ?_ | refine Reads.on ?_ (by assumption))) (by repeat (first | exact reads_lit _ _ _ _ _ _ (by simp) rfl rfl | assumption | exact Reads.none_ | exact reads_t0 | exact reads_u0 | exact reads_i0 | refine Reads.al ?_ _ | refine Reads.drew ?_ | refine Reads.on ?_ (by assumption))) (by decide) (by decide) (by decide) (small_texts _ (by decide +kernel)) (small_ints _ (by decide +kernel)) (by decide +kernel)).mono ?_
  rintro e w7 ⟨rfl, hb7⟩
  go_wp2_with fail
  with_reducible refine (put_lit _ _ _ [tB, tA, tB] [2, 1, 98, 1, 97, 0, 1, 0] 8 _ (by repeat (first | exact reads_lit _ _ _ _ _ _ (by simp) rfl rfl | assumption | exact Reads.none_ | exact reads_t0 | exact reads_u0 | exact reads_i0 | refine Reads.al ?_ _ | refine Reads.drew ?_ | refine Reads.on ?_ (by assumption))) (by decide) (small_texts _ (by decide +kernel)) (by decide) (by decide +kernel) rfl).mono ?_
  rintro e w8 ⟨A3, c3, rfl, hc3, hd3, r3, hb8⟩
  go_wp2_with fail
  with_reducible refine (eq_yes _ _ _ _ _ _ [2, 1, 98, 1, 97, 0, 1, 0] [2, 1, 98, 1, 97, 0, 1, 0] _ (by repeat (first | exact reads_lit _ _ _ _ _ _ (by simp) rfl rfl | assumption | exact Reads.none_ | exact reads_t0 | exact reads_u0 | exact reads_i0 | refine Reads.al ?_ _ | refine Reads.drew ?_ | refine Reads.on ?_ (by assumption))) (by repeat (first | exact reads_lit _ _ _ _ _ _ (by simp) rfl rfl | assumption | exact Reads.none_ | exact reads_t0 | exact reads_u0 | exact reads_i0 | refine Reads.al ?_ _ | refine Reads.drew ?_ | refine Reads.on ?_ (by assumption))) rfl).mono ?_
  rintro e w' ⟨rfl, rfl⟩
  go_wp2_with fail
  with_reducible refine (gets_ok _ _ _ [2, 1, 98, 1, 97, 0, 1, 0] 3 1 _ _ _ [tB, tA, tB] 8 8 _ (by repeat (first | exact reads_lit _ _ _ _ _ _ (by simp) rfl rfl | assumption | exact Reads.none_ | exact reads_t0 | exact reads_u0 | exact reads_i0 | refine Reads.al ?_ _ | refine Reads.drew ?_ | refine Reads.on ?_ (by assumption))) hc3 hd3 (by repeat (first | exact reads_lit _ _ _ _ _ _ (by simp) rfl rfl | assumption | exact Reads.none_ | exact reads_t0 | exact reads_u0 | exact reads_i0 | refine Reads.al ?_ _ | refine Reads.drew ?_ | refine Reads.on ?_ (by assumption))) (by decide) (by decide) (by decide) (by decide) (by kernel_rfl) rfl).mono ?_
  rintro e w9 ⟨rfl, hb9⟩
  go_wp2_with fail
  with_reducible refine (gets_err _ _ _ [2, 1, 98, 1, 97, 0, 1, 0] 3 0 5 5 _ (by repeat (first | exact reads_lit _ _ _ _ _ _ (by simp) rfl rfl | assumption | exact Reads.none_ | exact reads_t0 | exact reads_u0 | exact reads_i0 | refine Reads.al ?_ _ | refine Reads.drew ?_ | refine Reads.on ?_ (by assumption))) hc3 hd3 (by decide) (by decide) (by decide) (by kernel_rfl) rfl).mono ?_
  rintro e w10 ⟨rfl, hb10⟩
  go_wp2_with fail
  with_reducible refine (gets_ok _ _ _ [2, 1, 98, 1, 97, 0, 1, 0] 2 1 _ _ _ [tB, tA] 7 7 _ (by repeat (first | exact reads_lit _ _ _ _ _ _ (by simp) rfl rfl | assumption | exact Reads.none_ | exact reads_t0 | exact reads_u0 | exact reads_i0 | refine Reads.al ?_ _ | refine Reads.drew ?_ | refine Reads.on ?_ (by assumption))) hc3 hd3 (by repeat (first | exact reads_lit _ _ _ _ _ _ (by simp) rfl rfl | assumption | exact Reads.none_ | exact reads_t0 | exact reads_u0 | exact reads_i0 | refine Reads.al ?_ _ | refine Reads.drew ?_ | refine Reads.on ?_ (by assumption))) (by decide) (by decide) (by decide) (by decide) (by kernel_rfl) rfl).mono ?_
  rintro e w11 ⟨rfl, hb11⟩
  go_wp2_with fail
  with_reducible refine (gets_err _ _ _ [1, 1, 98, 1] 1 9 150 150 _ (by repeat (first | exact reads_lit _ _ _ _ _ _ (by simp) rfl rfl | assumption | exact Reads.none_ | exact reads_t0 | exact reads_u0 | exact reads_i0 | refine Reads.al ?_ _ | refine Reads.drew ?_ | refine Reads.on ?_ (by assumption))) (by decide) (by decide) (by decide) (by decide) (by decide) (by kernel_rfl) rfl).mono ?_
  rintro e w12 ⟨rfl, hb12⟩
  go_wp2_with fail
  with_reducible refine (gets_err _ _ _ [2] 1 9 5 5 _ (by repeat (first | exact reads_lit _ _ _ _ _ _ (by simp) rfl rfl | assumption | exact Reads.none_ | exact reads_t0 | exact reads_u0 | exact reads_i0 | refine Reads.al ?_ _ | refine Reads.drew ?_ | refine Reads.on ?_ (by assumption))) (by decide) (by decide) (by decide) (by decide) (by decide) (by kernel_rfl) rfl).mono ?_
  rintro e w13 ⟨rfl, hb13⟩
  go_wp2_with fail
  with_reducible refine (gets_ok _ _ _ [0] 0 0 _ _ _ [] 1 1 _ (by repeat (first | exact reads_lit _ _ _ _ _ _ (by simp) rfl rfl | assumption | exact Reads.none_ | exact reads_t0 | exact reads_u0 | exact reads_i0 | refine Reads.al ?_ _ | refine Reads.drew ?_ | refine Reads.on ?_ (by assumption))) (by decide) (by decide) (by repeat (first | exact reads_lit _ _ _ _ _ _ (by simp) rfl rfl | assumption | exact Reads.none_ | exact reads_t0 | exact reads_u0 | exact reads_i0 | refine Reads.al ?_ _ | refine Reads.drew ?_ | refine Reads.on ?_ (by assumption))) (by decide) (by decide) (by decide) (by decide) (by kernel_rfl) rfl).mono ?_
  rintro e w14 ⟨rfl, hb14⟩
  go_wp2_with fail
  with_reducible refine (gets_err _ _ _ [] 0 0 3 3 _ (by repeat (first | exact reads_lit _ _ _ _ _ _ (by simp) rfl rfl | assumption | exact Reads.none_ | exact reads_t0 | exact reads_u0 | exact reads_i0 | refine Reads.al ?_ _ | refine Reads.drew ?_ | refine Reads.on ?_ (by assumption))) (by decide) (by decide) (by decide) (by decide) (by decide) (by kernel_rfl) rfl).mono ?_
  rintro e w15 ⟨rfl, hb15⟩
  go_wp2_with fail
  with_reducible refine (gets_err _ _ _ [0] (-1) 0 6 6 _ (by repeat (first | exact reads_lit _ _ _ _ _ _ (by simp) rfl rfl | assumption | exact Reads.none_ | exact reads_t0 | exact reads_u0 | exact reads_i0 | refine Reads.al ?_ _ | refine Reads.drew ?_ | refine Reads.on ?_ (by assumption))) (by decide) (by decide) (by decide) (by decide) (by decide) (by kernel_rfl) rfl).mono ?_
  rintro e w16 ⟨rfl, hb16⟩
  go_wp2
  go_ret
  exact ⟨rfl, by repeat (first | exact Below.refl _ _ | assumption | refine bal ?_ _ | refine Below.drew ?_ | refine bon ?_ (by assumption))⟩
end Go.Proofs.Ytckaohkhknoocaa
