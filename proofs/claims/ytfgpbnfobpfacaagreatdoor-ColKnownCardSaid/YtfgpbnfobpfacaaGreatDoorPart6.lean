/- Part 6 of the walks, merged: each text under its own heading. Conditions: none of its own; each lemma states what it asks. -/
import Derived.Test.YtfgpbnfobpfacaaGreatDoorPart5
import Derived.Test.YtfgpbnfobpfacaaGreatDoorRows
import Derived.Test.YtfgpbnfobpfacaaGreatDoorLen64
/- Layer 16: lists of cells; mapped, walked. -/
set_option linter.unusedVariables false
set_option linter.unusedSimpArgs false
namespace Go.Proofs.YtfgpbnfobpfacaaGreatDoor
open Go.RowKit
theorem addc_zero (a : Addr) : a.add 0 = a := by unfold Addr.add; simp
theorem addc_pos (a : Addr) (j : Nat) (h : 0 < j) : a.add j = ⟨a.block, a.off + j, none⟩ := by unfold Addr.add; rw [if_neg (by simpa using Nat.ne_of_gt h)]
/-- Cells, as they lie in a slice. -/
def cls (l : List Cl) : List Value := l.flatMap fun c => [.bool c.1, .int .i64 c.2.1, .string c.2.2]
def ClOk (l : List Cl) : Prop := ∀ c ∈ l, -9223372036854775808 ≤ c.2.1 ∧ c.2.1 ≤ 9223372036854775807 ∧ c.2.2.size ≤ maxLen
theorem cls_len {w : World} {B n : Nat} {A : Option Addr} {l : List Cl} (h : Reads w B 3 A n (cls l)) : l.length = n := by
  have := h.1
  rw [cls, flatMap_length _ 3 (fun _ => rfl)] at this
  omega
theorem cls_at {w : World} {B n k : Nat} {A : Option Addr} {l : List Cl} (h : Reads w B 3 A n (cls l)) (hk : k < n) : ∃ ad u m s, A = some ad ∧ ad.block < B ∧ l[k]? = some (u, m, s) ∧
    w.cell? (ad.add (k * 3)) = some (.bool u) ∧ w.cell? ⟨(ad.add (k * 3)).block, (ad.add (k * 3)).off + 1, none⟩ = some (.int .i64 m) ∧ w.cell? ⟨(ad.add (k * 3)).block, (ad.add (k * 3)).off + 2, none⟩ = some (.string s) := by
  have hl := cls_len h
  obtain ⟨ad, e, hb, hc⟩ := h.2 (by omega)
  have key : ∀ j v, [Value.bool l[k].1, .int .i64 l[k].2.1, .string l[k].2.2][j]? = some v → w.cell? ((ad.add (k * 3)).add j) = some v := fun j v hv => by
    have hj : j < 3 := (List.getElem?_eq_some_iff.1 hv).1
    rw [add_of_add]
    exact hc _ _ (by rw [cls, flatMap_at _ 3 (fun _ => rfl) l k j l[k] (List.getElem?_eq_getElem (by omega)) hj]; exact hv)
  refine ⟨ad, l[k].1, l[k].2.1, l[k].2.2, e, hb, List.getElem?_eq_getElem (by omega), ?_, ?_, ?_⟩
  · have := key 0 _ rfl
    rwa [addc_zero] at this
  · have := key 1 _ rfl
    rwa [addc_pos _ _ (by decide)] at this
  · have := key 2 _ rfl
    rwa [addc_pos _ _ (by decide)] at this
set_option maxRecDepth 100000 in
set_option maxHeartbeats 1000000 in
theorem mappedB_any (f : FuncId) (g : Cl → Bool) (A : Option Addr) (n c : Nat) (l : List Cl) (w : World) (hr : Reads w w.heap.size 3 A n (cls l)) (hn : n ≤ 1099511627776)
    (hin : ∀ args w', (callFunc f args).run Tryz.prog w' = .ok (.enter f args) w')
    (hcall : ∀ (u : Bool) (m : Int) (s : ByteArray) (w : World), Calls Tryz.prog f #[.agg #[.bool u, .int .i64 m, .string s]] w fun e w' => e = .returned (.bool (g (u, m, s))) ∧ Below w.heap.size w w') :
    Calls Tryz.prog 26 #[.slice A n c, .func (.func f) #[] #[]] w fun e w' => ∃ A' c', e = .returned (.slice A' n c') ∧ n ≤ c' ∧ c' ≤ maxLen ∧ w'.ownsRow w.heap.size 4 1 (.slice A' n c') n (bls (l.map g)) ∧ Below w.heap.size w w' := by
  obtain ⟨i0, hi0, hz0, hz1, hz2⟩ := info_parts bool_info
  have Hln := Lib.hid (cls_len hr)
  have Hr := Lib.hid hr
  have Hcall := Lib.hid hcall
  clear hr hcall
  go_enter Tryz.func26, Tryz.ntmps26
  go_wp2
  go_loopw [4, 9] (fun v i wr => ∃ (k : Nat) (A1 : Option Addr) (c1 : Nat), k ≤ n ∧ i = .int .i64 (k : Int) ∧ v = .slice A1 k c1 ∧ k ≤ c1 ∧ c1 ≤ maxLen ∧ wr.ownsRow w.heap.size 4 1 (.slice A1 k c1) k (bls ((l.take k).map g)) ∧ Below w.heap.size w wr) (fun _ i _ => n - (intOf i).toNat)
  case atStart => exact ⟨0, none, 0, Nat.zero_le _, rfl, rfl, Nat.le_refl _, by decide, World.ownsRow_nil _ _ _ _, Below.refl _ _⟩
  case round =>
    obtain ⟨k, A1, c1, hk, rfl, rfl, hkc, hcm, hown, hB⟩ := hrel
    have Hown := Lib.hid hown
    have HB := Lib.hid hB
    clear hown hB
    by_cases hlt : k < n
    · obtain ⟨ad, u, m, s, rfl, hbk, hx, h0, h1, h2⟩ := cls_at (Hr.out.below HB.out) hlt
      have hbase := HB.out.size
      have hs1 : k + 1 ≤ maxLen := by simp only [maxLen]; omega
      have hs2 : (k + 1) * 1 ≤ 70368744177664 := by omega
      have Hx := Lib.hid hx
      clear hx hbk
      go_wp2_with fail
      with_reducible refine (Hcall.out u m s _).mono ?_
      rintro e w1 ⟨rfl, hb1⟩
      have hown1 := own_below (Hown.out.alloc (.cells #[.bool u, .int .i64 m, .string s] 41)) hb1
      have HB1 := Lib.hid ((HB.out.alloc hbase (.cells #[.bool u, .int .i64 m, .string s] 41)).trans (hb1.mono (by have := World.size_alloc (w := wr) (o := .cells #[.bool u, .int .i64 m, .string s] 41); omega)))
      have hbase1 := HB1.out.size
      clear hb1
      go_wp2_with (at_builtin
                   refine wpList_append_any _ rfl (.tmp 13) (.tmp 17) 42 rfl w.heap.size 4 i0 (.bool false) 1 1 Tryz.underlying42 hi0 hz0 hz1 hz2 rfl (by decide) A1 k c1 _ rfl (hown1.alloc _) _ 1 1 [.bool (g (u, m, s))] rfl (reads_new _ _ _) (one_bool _) hs1 hs2 (by simp; omega) ?_
                   intro A5 c5 w5 hown5 hb5 hg5 hc5 hm5)
      rw [show bls ((l.take k).map g) ++ [.bool (g (u, m, s))] = bls ((l.take (k + 1)).map g) by rw [List.take_add_one, Hx.out]; simp [bls]] at hown5
      go_roundw
      case rel => exact ⟨k + 1, A5, c5, by omega, by go_num, rfl, hc5, hm5, hown5, (HB1.out.alloc hbase1 _).trans hb5⟩
      case measure => simp [intOf]; omega
    · obtain rfl : k = n := by omega
      have hmap : (l.take k).map g = l.map g := by rw [List.take_of_length_le (by rw [Hln.out]; exact Nat.le_refl _)]
      have Hmap := Lib.hid hmap
      clear hmap
      go_wp2
      go_ret
      exact ⟨A1, c1, rfl, hkc, hcm, by rw [← Hmap.out]; exact Hown.out, HB.out⟩
set_option maxRecDepth 100000 in
set_option maxHeartbeats 1000000 in
theorem mappedS_any (f : FuncId) (g : Cl → ByteArray) (A : Option Addr) (n c : Nat) (l : List Cl) (w : World) (hr : Reads w w.heap.size 3 A n (cls l)) (hn : n ≤ 1099511627776)
    (hin : ∀ args w', (callFunc f args).run Tryz.prog w' = .ok (.enter f args) w')
    (hcall : ∀ (u : Bool) (m : Int) (s : ByteArray) (w : World), Calls Tryz.prog f #[.agg #[.bool u, .int .i64 m, .string s]] w fun e w' => e = .returned (.string (g (u, m, s))) ∧ Below w.heap.size w w') :
    Calls Tryz.prog 95 #[.slice A n c, .func (.func f) #[] #[]] w fun e w' => ∃ A' c', e = .returned (.slice A' n c') ∧ n ≤ c' ∧ c' ≤ maxLen ∧ w'.ownsRow w.heap.size 9 1 (.slice A' n c') n (txs (l.map g)) ∧ Below w.heap.size w w' := by
  obtain ⟨i0, hi0, hz0, hz1, hz2⟩ := info_parts text_info
  have Hln := Lib.hid (cls_len hr)
  have Hr := Lib.hid hr
  have Hcall := Lib.hid hcall
  clear hr hcall
  go_enter Tryz.func95, Tryz.ntmps95
  go_wp2
  go_loopw [4, 9] (fun v i wr => ∃ (k : Nat) (A1 : Option Addr) (c1 : Nat), k ≤ n ∧ i = .int .i64 (k : Int) ∧ v = .slice A1 k c1 ∧ k ≤ c1 ∧ c1 ≤ maxLen ∧ wr.ownsRow w.heap.size 9 1 (.slice A1 k c1) k (txs ((l.take k).map g)) ∧ Below w.heap.size w wr) (fun _ i _ => n - (intOf i).toNat)
  case atStart => exact ⟨0, none, 0, Nat.zero_le _, rfl, rfl, Nat.le_refl _, by decide, World.ownsRow_nil _ _ _ _, Below.refl _ _⟩
  case round =>
    obtain ⟨k, A1, c1, hk, rfl, rfl, hkc, hcm, hown, hB⟩ := hrel
    have Hown := Lib.hid hown
    have HB := Lib.hid hB
    clear hown hB
    by_cases hlt : k < n
    · obtain ⟨ad, u, m, s, rfl, hbk, hx, h0, h1, h2⟩ := cls_at (Hr.out.below HB.out) hlt
      have hbase := HB.out.size
      have hs1 : k + 1 ≤ maxLen := by simp only [maxLen]; omega
      have hs2 : (k + 1) * 16 ≤ 70368744177664 := by omega
      have Hx := Lib.hid hx
      clear hx hbk
      go_wp2_with fail
      with_reducible refine (Hcall.out u m s _).mono ?_
      rintro e w1 ⟨rfl, hb1⟩
      have hown1 := own_below (Hown.out.alloc (.cells #[.bool u, .int .i64 m, .string s] 41)) hb1
      have HB1 := Lib.hid ((HB.out.alloc hbase (.cells #[.bool u, .int .i64 m, .string s] 41)).trans (hb1.mono (by have := World.size_alloc (w := wr) (o := .cells #[.bool u, .int .i64 m, .string s] 41); omega)))
      have hbase1 := HB1.out.size
      clear hb1
      go_wp2_with (at_builtin
                   refine wpList_append_any _ rfl (.tmp 13) (.tmp 17) 93 rfl w.heap.size 9 i0 (.string ⟨#[]⟩) 1 16 Tryz.underlying93 hi0 hz0 hz1 hz2 rfl (by decide) A1 k c1 _ rfl (hown1.alloc _) _ 1 1 [.string (g (u, m, s))] rfl (reads_new _ _ _) (one_text _) hs1 hs2 (by simp; omega) ?_
                   intro A5 c5 w5 hown5 hb5 hg5 hc5 hm5)
      rw [show txs ((l.take k).map g) ++ [.string (g (u, m, s))] = txs ((l.take (k + 1)).map g) by rw [List.take_add_one, Hx.out]; simp [txs]] at hown5
      go_roundw
      case rel => exact ⟨k + 1, A5, c5, by omega, by go_num, rfl, hc5, hm5, hown5, (HB1.out.alloc hbase1 _).trans hb5⟩
      case measure => simp [intOf]; omega
    · obtain rfl : k = n := by omega
      have hmap : (l.take k).map g = l.map g := by rw [List.take_of_length_le (by rw [Hln.out]; exact Nat.le_refl _)]
      have Hmap := Lib.hid hmap
      clear hmap
      go_wp2
      go_ret
      exact ⟨A1, c1, rfl, hkc, hcm, by rw [← Hmap.out]; exact Hown.out, HB.out⟩
set_option maxRecDepth 100000 in
theorem there_any (u : Bool) (m : Int) (s : ByteArray) (w : World) : Calls Tryz.prog 27 #[.agg #[.bool u, .int .i64 m, .string s]] w fun e w' => e = .returned (.bool (!u)) ∧ Below w.heap.size w w' := by
  go_enter Tryz.func27, Tryz.ntmps27
  go_wp2
  go_ret
  exact ⟨rfl, (Below.refl _ _).alloc (Nat.le_refl _) _⟩
set_option maxRecDepth 100000 in
theorem isone_any (u : Bool) (m : Int) (s : ByteArray) (w : World) : Calls Tryz.prog 92 #[.agg #[.bool u, .int .i64 m, .string s]] w fun e w' => e = .returned (.bool (m == 1)) ∧ Below w.heap.size w w' := by
  go_enter Tryz.func92, Tryz.ntmps92
  go_wp2
  go_ret
  exact ⟨rfl, (Below.refl _ _).alloc (Nat.le_refl _) _⟩
set_option maxRecDepth 100000 in
theorem itstext_any (u : Bool) (m : Int) (s : ByteArray) (w : World) : Calls Tryz.prog 96 #[.agg #[.bool u, .int .i64 m, .string s]] w fun e w' => e = .returned (.string s) ∧ Below w.heap.size w w' := by
  go_enter Tryz.func96, Tryz.ntmps96
  go_wp2
  go_ret
  exact ⟨rfl, (Below.refl _ _).alloc (Nat.le_refl _) _⟩
theorem mapThere (A : Option Addr) (n c : Nat) (l : List Cl) (w : World) (hr : Reads w w.heap.size 3 A n (cls l)) (hn : n ≤ 1099511627776) :
    Calls Tryz.prog 26 #[.slice A n c, .func (.func 27) #[] #[]] w fun e w' => ∃ A' c', e = .returned (.slice A' n c') ∧ n ≤ c' ∧ c' ≤ maxLen ∧ w'.ownsRow w.heap.size 4 1 (.slice A' n c') n (bls (l.map fun c => !c.1)) ∧ Below w.heap.size w w' :=
  mappedB_any 27 (fun c => !c.1) A n c l w hr hn (fun args w' => callFunc_in Tryz.func27 (by kernel_rfl) (by kernel_rfl) args w') there_any
theorem mapOnes (A : Option Addr) (n c : Nat) (l : List Cl) (w : World) (hr : Reads w w.heap.size 3 A n (cls l)) (hn : n ≤ 1099511627776) :
    Calls Tryz.prog 26 #[.slice A n c, .func (.func 92) #[] #[]] w fun e w' => ∃ A' c', e = .returned (.slice A' n c') ∧ n ≤ c' ∧ c' ≤ maxLen ∧ w'.ownsRow w.heap.size 4 1 (.slice A' n c') n (bls (l.map fun c => c.2.1 == 1)) ∧ Below w.heap.size w w' :=
  mappedB_any 92 (fun c => c.2.1 == 1) A n c l w hr hn (fun args w' => callFunc_in Tryz.func92 (by kernel_rfl) (by kernel_rfl) args w') isone_any
theorem mapTexts (A : Option Addr) (n c : Nat) (l : List Cl) (w : World) (hr : Reads w w.heap.size 3 A n (cls l)) (hn : n ≤ 1099511627776) :
    Calls Tryz.prog 95 #[.slice A n c, .func (.func 96) #[] #[]] w fun e w' => ∃ A' c', e = .returned (.slice A' n c') ∧ n ≤ c' ∧ c' ≤ maxLen ∧ w'.ownsRow w.heap.size 9 1 (.slice A' n c') n (txs (l.map fun c => c.2.2)) ∧ Below w.heap.size w w' :=
  mappedS_any 96 (fun c => c.2.2) A n c l w hr hn (fun args w' => callFunc_in Tryz.func96 (by kernel_rfl) (by kernel_rfl) args w') itstext_any
end Go.Proofs.YtfgpbnfobpfacaaGreatDoor
/- Layer 15: what Get reads, plainly. -/
set_option linter.unusedVariables false
set_option linter.unusedSimpArgs false
namespace Go.Proofs.YtfgpbnfobpfacaaGreatDoor
/-- One text: an error, or the text and how many bytes it took. -/
def takeT (most : Int) (b : List UInt8) : Except Nat (ByteArray × Nat) :=
  if (get b).2.2 ≠ 0 then .error (get b).2.2
  else if most < 0 ∨ most < ((get b).1 : Int) then .error 5
  else if b.length - (get b).2.1 < (get b).1 then .error 3
  else .ok (txt ((b.drop (get b).2.1).take (get b).1), (get b).2.1 + (get b).1)
theorem takeTexts_succ (most : Int) (k : Nat) (b : List UInt8) (d : List ByteArray) : takeTexts most (k + 1) b d = match takeT most b with
    | .error e => .error e
    | .ok (s, n) => if (placeL d s).isSome then .error 150 else takeTexts most k (b.drop n) (d ++ [s]) := by
  rw [takeTexts]
  unfold takeT
  by_cases h1 : (get b).2.2 ≠ 0
  · rw [if_pos h1, if_pos h1]
  · rw [if_neg h1, if_neg h1]
    by_cases h2 : most < 0 ∨ most < ((get b).1 : Int)
    · rw [if_pos h2, if_pos h2]
    · rw [if_neg h2, if_neg h2, List.length_drop]
      by_cases h3 : b.length - (get b).2.1 < (get b).1
      · rw [if_pos h3, if_pos h3]
      · rw [if_neg h3, if_neg h3]
        simp only [List.drop_drop]
/-- The dictionary: an error, or its texts and what is left. -/
def dictL (xs : List UInt8) (n : Nat) (most : Int) : Except Nat (List ByteArray × List UInt8) :=
  if (get xs).2.2 ≠ 0 then .error (get xs).2.2
  else if n < (get xs).1 then .error 5
  else takeTexts most (get xs).1 (xs.drop (get xs).2.1) []
/-- What Get hands back: an error, or texts and how many bytes were read. -/
def getN (xs : List UInt8) (n : Nat) (most : Int) : Except Nat (List ByteArray × Nat) :=
  match dictL xs n most with
  | .error e => .error e
  | .ok (d, r) => match takeNums d.length n r 0 [] with
    | .error e => .error e
    | .ok (u, ns, q) => if u < d.length then .error 150 else .ok (ns.filterMap (d[·]?), xs.length - q.length)
def getDI (xs : List UInt8) (n most : Int) : Except Nat (List ByteArray × Nat) :=
  if n < 0 ∨ 1048576 < n then .error 6 else getN xs n.toNat most
end Go.Proofs.YtfgpbnfobpfacaaGreatDoor
/- Layer 16: what is written as a column, and read of one, plainly. -/
set_option linter.unusedVariables false
set_option linter.unusedSimpArgs false
namespace Go.Proofs.YtfgpbnfobpfacaaGreatDoor
open Go.RowKit
/-- The bytes of whole numbers. -/
def intsB (l : List Cl) : List UInt8 := l.flatMap fun c => leb (zig c.2.1)
/-- The bytes of byte cells. -/
def rawsB (l : List Cl) : List UInt8 := l.flatMap fun c => leb c.2.2.size ++ c.2.2.data.toList
/-- The bytes of cells that are not nothing. -/
def bareB (k : Int) (l : List Cl) : List UInt8 := if k = 1 then packL (l.map fun c => c.2.1 == 1) else if k = 4 then putD (l.map fun c => c.2.2) else if k = 5 then rawsB l else intsB l
def someC (l : List Cl) : List Cl := l.filter fun c => !c.1
def allC (k : Int) (nl : Bool) (l : List Cl) : Bool := l.all fun c => checkE k nl c == 0
def putE (k : Int) (nl : Bool) (l : List Cl) : Int := if mayK k then (if allC k nl l then 0 else 90) else 2
def putB (k : Int) (nl : Bool) (l : List Cl) (xs : List UInt8) : List UInt8 := xs ++ ((if nl then packL (l.map fun c => !c.1) else []) ++ bareB k (someC l))
def putO (k : Int) (nl : Bool) (l : List Cl) (xs : List UInt8) : List UInt8 := if putE k nl l = 0 then putB k nl l xs else []
def boolC (b : Bool) : Cl := (false, if b then 1 else 0, ⟨#[]⟩)
def intC (n : Int) : Cl := (false, n, ⟨#[]⟩)
def txtC (s : ByteArray) : Cl := (false, 0, s)
def nullC : Cl := (true, 0, ⟨#[]⟩)
abbrev GotC := Except Nat (List Cl × Nat)
/-- One number more. -/
def stepI (k : Int) (xs : List UInt8) (st : List Cl × Nat) : GotC :=
  if (get (xs.drop st.2)).2.2 = 0 then
    (if isC k (intC (zag (get (xs.drop st.2)).1)) = true then .ok (st.1 ++ [intC (zag (get (xs.drop st.2)).1)], st.2 + (get (xs.drop st.2)).2.1) else .error 90)
  else .error (get (xs.drop st.2)).2.2
/-- One text of bytes more. -/
def stepR (xs : List UInt8) (st : List Cl × Nat) : GotC :=
  if (get (xs.drop st.2)).2.2 = 0 then
    (if 1024 < (get (xs.drop st.2)).1 then .error 5
     else if xs.length < st.2 + (get (xs.drop st.2)).2.1 + (get (xs.drop st.2)).1 then .error 3
     else .ok (st.1 ++ [txtC (txt ((xs.drop (st.2 + (get (xs.drop st.2)).2.1)).take (get (xs.drop st.2)).1))], st.2 + (get (xs.drop st.2)).2.1 + (get (xs.drop st.2)).1))
  else .error (get (xs.drop st.2)).2.2
def iterC (f : List Cl × Nat → GotC) : Nat → GotC
  | 0 => .ok ([], 0)
  | n + 1 => match iterC f n with | .ok st => f st | .error e => .error e
theorem iterC_err {f : List Cl × Nat → GotC} {n m e : Nat} (h : iterC f n = .error e) (hm : n ≤ m) : iterC f m = .error e := by
  induction m with
  | zero => obtain rfl : n = 0 := by omega
            exact h
  | succ m ih =>
    rcases Nat.lt_or_ge m n with h2 | h2
    · obtain rfl : n = m + 1 := by omega
      exact h
    · rw [iterC, ih h2]
theorem iterC_ok {f : List Cl × Nat → GotC} {n m : Nat} {st : List Cl × Nat} (h : iterC f m = .ok st) (hm : n ≤ m) : ∃ st', iterC f n = .ok st' := by
  rcases hn : iterC f n with e | st'
  · rw [iterC_err hn hm] at h
    cases h
  · exact ⟨st', rfl⟩
theorem iterC_succ {f : List Cl × Nat → GotC} {n : Nat} {st : List Cl × Nat} (h : iterC f n = .ok st) : iterC f (n + 1) = f st := by rw [iterC, h]
/-- n cells that are not nothing. -/
def getB (k : Int) (xs : List UInt8) (n : Int) : GotC :=
  if k = 1 then (if (unpackL xs n).2.2 = 0 then .ok ((unpackL xs n).1.map boolC, (unpackL xs n).2.1) else .error (unpackL xs n).2.2)
  else if k = 4 then (match getDI xs n 1024 with
    | .ok (l, s) => if l.all (fun s => Lib.validD s.data.toList) = true then .ok (l.map txtC, s) else .error 90
    | .error e => .error e)
  else if k = 5 then iterC (stepR xs) n.toNat else iterC (stepI k xs) n.toNat
/-- Cells put where they are there. -/
def mergeL : List Bool → List Cl → List Cl
  | [], _ => []
  | false :: t, l => nullC :: mergeL t l
  | true :: t, [] => []
  | true :: t, c :: l => c :: mergeL t l
def getC (k : Int) (nl : Bool) (xs : List UInt8) (n : Int) : GotC :=
  if mayK k = false then .error 2
  else if n < 0 ∨ 1048576 < n then .error 6
  else if nl = false then getB k xs n
  else if (unpackL xs n).2.2 = 0 then
    (match getB k (xs.drop (unpackL xs n).2.1) (countL (unpackL xs n).1 : Int) with
      | .ok (l, s) => .ok (mergeL (unpackL xs n).1 l, (unpackL xs n).2.1 + s)
      | .error e => .error e)
  else .error (unpackL xs n).2.2
theorem mergeL_step : ∀ (t : List Bool) (l : List Cl) (i : Nat) (b : Bool), t[i]? = some b → countL t ≤ l.length →
    mergeL (t.take (i + 1)) l = mergeL (t.take i) l ++ [if b = true then (l[countL (t.take i)]?).getD nullC else nullC]
  | [], l, i, b, h, _ => by simp at h
  | a :: t, l, 0, b, h, hc => by
    obtain rfl : a = b := by simpa using h
    cases a with
    | false => simp [mergeL]
    | true =>
      cases l with
      | nil => simp [countL] at hc
      | cons c l => simp [mergeL, countL]
  | false :: t, l, i + 1, b, h, hc => by
    have := mergeL_step t l i b (by simpa using h) (by simpa [countL] using hc)
    simpa [mergeL, countL] using this
  | true :: t, [], i + 1, b, h, hc => by simp [countL] at hc
  | true :: t, c :: l, i + 1, b, h, hc => by
    have := mergeL_step t l i b (by simpa using h) (by simpa [countL] using hc)
    simp only [List.take_succ_cons, mergeL, List.cons_append, List.cons.injEq, true_and]
    rw [this]
    simp [countL]
theorem mergeL_len : ∀ (t : List Bool) (l : List Cl), countL t ≤ l.length → (mergeL t l).length = t.length
  | [], l, _ => rfl
  | false :: t, l, h => by simp [mergeL, mergeL_len t l (by simpa [countL] using h)]
  | true :: t, [], h => by simp [countL] at h
  | true :: t, c :: l, h => by simp [mergeL, mergeL_len t l (by simpa [countL] using h)]
end Go.Proofs.YtfgpbnfobpfacaaGreatDoor
/- Layer 15, walked: Split of the program. -/
set_option linter.unusedVariables false
set_option linter.unusedSimpArgs false
namespace Go.Proofs.YtfgpbnfobpfacaaGreatDoor
open Go.RowKit
def atF (d : List ByteArray) (s : ByteArray) : Option Int := (placeL d s).map fun (k : Nat) => (k : Int)
theorem atF_put (d : List ByteArray) (s : ByteArray) (h : placeL d s = none) (r : ByteArray) : atF (d ++ [s]) r = if r = s then some (d.length : Int) else atF d r := by
  have key : ∀ (d : List ByteArray), placeL d s = none → placeL (d ++ [s]) r = if r = s then some d.length else placeL d r := by
    intro d
    induction d with
    | nil =>
      intro _
      by_cases hr : r = s
      · subst hr; simp [placeL]
      · have hr' : ¬ s = r := fun e => hr e.symm
        simp [placeL, hr, hr']
    | cons x d ih =>
      intro h
      rw [placeL] at h
      split at h
      · cases h
      · rename_i hne
        rw [Option.map_eq_none_iff] at h
        have := ih h
        rw [List.cons_append, placeL, this]
        by_cases hr : r = s
        · subst hr
          rw [if_neg hne, if_pos rfl, if_pos rfl]
          simp
        · rw [if_neg hr, if_neg hr, placeL]
  unfold atF
  rw [key d h]
  by_cases hr : r = s
  · rw [if_pos hr, if_pos hr]; rfl
  · rw [if_neg hr, if_neg hr]
theorem zero_int (w : World) : (zeroValue 3).run Tryz.prog w = .ok (.int .i64 0) w := by kernel_rfl
abbrev MapT (w : World) (g n m : Nat) (f : ByteArray → Option Int) : Prop := MapS Tryz.prog 9 3 w g n m f

set_option maxRecDepth 100000 in
set_option maxHeartbeats 1000000 in
theorem split_any (A : Option Addr) (n c : Nat) (l : List ByteArray) (w : World) (hr : Reads w w.heap.size 1 A n (txs l)) (hn : n ≤ 1099511627776) (hsz : ∀ s ∈ l, s.size ≤ maxLen) :
    Calls Tryz.prog 122 #[.slice A n c] w (Parted l w) := by
  obtain ⟨i0, hi0, hz0, hz1, hz2⟩ := info_parts text_info
  obtain ⟨j0, hj0, hy0, hy1, hy2⟩ := info_parts int_info
  have Hlen := Lib.hid (tlen hr)
  have Hsz := Lib.hid hsz
  clear hsz
  have hmm := @run_makeMap Tryz.prog
  go_enter Tryz.func122, Tryz.ntmps122
  go_wp2
  clear hmm
  go_loopw [2, 3, 12] (fun u v i wr => ∃ (k nd : Nat) (A1 : Option Addr) (c1 : Nat) (A2 : Option Addr) (c2 : Nat) (d : List ByteArray) (ns : List Nat), k ≤ n ∧ nd ≤ k ∧ i = .int .i64 (k : Int) ∧ u = .slice A1 nd c1 ∧ v = .slice A2 k c2 ∧ Hid (splitL (l.take k) = (d, ns)) ∧
    wr.ownsRow w.heap.size 9 1 (.slice A1 nd c1) nd (txs d) ∧ wr.ownsRow w.heap.size 3 1 (.slice A2 k c2) k (nns ns) ∧ Hid (MapT wr w.heap.size k nd (atF d)) ∧ Below w.heap.size w wr) (fun _ _ i _ => n - (intOf i).toNat)
  case atStart => exact ⟨0, 0, none, 0, none, 0, [], [], Nat.zero_le _, Nat.zero_le _, rfl, rfl, rfl, Lib.hid rfl, World.ownsRow_nil _ _ _ _, World.ownsRow_nil _ _ _ _, Lib.hid (MapS.same (MapS.made w) (fun s => by rfl)), (Below.refl _ _).alloc (Nat.le_refl _) _⟩
  case round =>
    obtain ⟨k, nd, A1, c1, A2, c2, d, ns, hk, hnd, rfl, rfl, rfl, hs, hown, hown2, hmap, hB⟩ := hrel
    by_cases hlt : k < n
    · obtain ⟨ad, v, rfl, hbk, hx, hcell⟩ := hr.at_ hlt
      rw [← hB.cell (p := ad.add k) (by rw [block_of_add]; exact hbk)] at hcell
      obtain ⟨s, hs', rfl⟩ := txs_get _ _ _ hx
      have hst := splitL_take l k s hs'
      rw [hs.out] at hst
      have hss := Hsz.out s (List.mem_of_getElem? hs')
      clear hx hs' hbk hs
      have hbase := hB.size
      have hs1 : nd + 1 ≤ maxLen := by simp only [maxLen]; omega
      have hs2 : (nd + 1) * 16 ≤ 70368744177664 := by omega
      have hs3 : k + 1 ≤ maxLen := by simp only [maxLen]; omega
      have hs4 : (k + 1) * 8 ≤ 70368744177664 := by omega
      have Hdl := Lib.hid (show d.length = nd from by have := hown.1; simpa using this)
      rcases hp : placeL d s with _ | j
      · have hst2 : splitL (l.take (k + 1)) = (d ++ [s], ns ++ [nd]) := by rw [hst]; unfold splitStep; simp only [hp]; rw [Hdl.out]
        have Hst := Lib.hid hst2
        have Hat := Lib.hid (show atF d s = none from by unfold atF; rw [hp]; rfl)
        have hput := atF_put d s hp
        rw [Hdl.out] at hput
        have Hput := Lib.hid hput
        clear hst hst2 hp hput
        go_wp2_with (first
          | (at_lookup; refine wpList_mapS_ok rfl _ _ _ rfl hmap.out Tryz.underlying3 Tryz.underlying9 Tryz.underlying169 (zero_int _) s hss none Hat.out rfl rfl ?_)
          | (at_builtin
             refine wpList_append_any _ rfl (.tmp 29) (.tmp 31) 93 rfl w.heap.size 9 i0 (.string ⟨#[]⟩) 1 16 Tryz.underlying93 hi0 hz0 hz1 hz2 rfl (by decide) A1 nd c1 _ rfl (hown.alloc _) _ 1 1 [.string s] rfl (reads_new _ _ _) (one_text s) hs1 hs2 (by simp; omega) ?_
             intro A3 c3 w3 hown3 hb3 hg3 hc3 hm3
             replace hmap := Lib.hid ((hmap.out.al (.cells #[.string s] 9)).grown hg3 ((hmap.out.al (.cells #[.string s] 9)).apart (hown.alloc _)))
             replace hown2 := own_apart (hown2.alloc (.cells #[.string s] 9)) (hown.alloc _) (by decide) hg3
             have hB3 := (hB.alloc hbase (.cells #[.string s] 9)).trans hb3
             have hbase3 := hB3.size)
          | (at_mapUpdate
             refine wpList_mapS_store rfl _ _ _ _ rfl hmap.out Tryz.underlying3 Tryz.underlying9 Tryz.underlying169 (by simp only [maxLen]; omega) s hss (nd : Int) (by simp [Lit.wf, IntKind.min, IntKind.max, IntKind.signed, IntKind.bits]; omega) rfl rfl rfl ?_
             intro w5 hmap5 hg5
             rw [Hat.out] at hmap5
             replace hmap5 := Lib.hid (MapS.same hmap5 (f' := atF (d ++ [s])) (fun r => Hput.out r))
             replace hown3 := own_map hmap.out hown3 hg5
             replace hown2 := own_map hmap.out hown2 hg5
             have hB5 := hB3.grown hg5 hbase3 (by intro q hq; cases hq; exact Nat.le_refl _)
             have hbase5 := hB5.size
             clear hmap hg5)
          | (at_builtin
             refine wpList_append_any _ rfl (.tmp 33) (.tmp 35) 119 rfl w.heap.size 3 j0 (.int .i64 0) 1 8 Tryz.underlying119 hj0 hy0 hy1 hy2 rfl (by decide) A2 k c2 _ rfl (hown2.alloc _) _ 1 1 [.int .i64 (nd : Int)] rfl (reads_new _ _ _) (one_int _ _) hs3 hs4 (by simp; omega) ?_
             intro A4 c4 w4 hown4 hb4 hg4 hc4 hm4))
        rw [if_neg (by simp)] at hmap5
        have hmap4 := (hmap5.out.al (.cells #[.int .i64 (nd : Int)] 3)).grown hg4 ((hmap5.out.al (.cells #[.int .i64 (nd : Int)] 3)).apart (hown2.alloc _))
        replace hown3 := own_apart (hown3.alloc (.cells #[.int .i64 (nd : Int)] 3)) (hown2.alloc _) (by decide) hg4
        have hB4 := (hB5.alloc hbase5 (.cells #[.int .i64 (nd : Int)] 3)).trans hb4
        rw [show txs d ++ [Value.string s] = txs (d ++ [s]) from by simp [txs]] at hown3
        rw [show nns ns ++ [Value.int .i64 (nd : Int)] = nns (ns ++ [nd]) from by simp [nns]] at hown4
        go_roundw
        case rel => exact ⟨k + 1, nd + 1, A3, c3, A4, c4, _, _, by omega, by omega, by go_num, rfl, rfl, Hst, hown3, hown4, Lib.hid hmap4, hB4⟩
        case measure => simp [intOf]; omega
      · have hst2 : splitL (l.take (k + 1)) = (d, ns ++ [j]) := by rw [hst]; unfold splitStep; simp only [hp]
        have Hst := Lib.hid hst2
        have Hat := Lib.hid (show atF d s = some (j : Int) from by unfold atF; rw [hp]; rfl)
        clear hst hst2 hp
        go_wp2_with (first
          | (at_lookup; refine wpList_mapS_ok rfl _ _ _ rfl hmap.out Tryz.underlying3 Tryz.underlying9 Tryz.underlying169 (zero_int _) s hss (some (j : Int)) Hat.out rfl rfl ?_)
          | (at_builtin
             refine wpList_append_any _ rfl (.tmp 33) (.tmp 35) 119 rfl w.heap.size 3 j0 (.int .i64 0) 1 8 Tryz.underlying119 hj0 hy0 hy1 hy2 rfl (by decide) A2 k c2 _ rfl (hown2.alloc _) _ 1 1 [.int .i64 (j : Int)] rfl (reads_new _ _ _) (one_int _ _) hs3 hs4 (by simp; omega) ?_
             intro A4 c4 w4 hown4 hb4 hg4 hc4 hm4))
        have hmap4 := (hmap.out.al (.cells #[.int .i64 (j : Int)] 3)).grown hg4 ((hmap.out.al (.cells #[.int .i64 (j : Int)] 3)).apart (hown2.alloc _))
        replace hown := own_apart (hown.alloc (.cells #[.int .i64 (j : Int)] 3)) (hown2.alloc _) (by decide) hg4
        have hB4 := (hB.alloc hbase (.cells #[.int .i64 (j : Int)] 3)).trans hb4
        rw [show nns ns ++ [Value.int .i64 (j : Int)] = nns (ns ++ [j]) from by simp [nns]] at hown4
        go_roundw
        case rel => exact ⟨k + 1, nd, A1, c1, A4, c4, _, _, by omega, by omega, by go_num, rfl, rfl, Hst, hown, hown4, Lib.hid (hmap4.mono (Nat.le_succ k)), hB4⟩
        case measure => simp [intOf]; omega
    · have hkn : k = n := by omega
      subst hkn
      have hs2 := hs.out
      rw [List.take_of_length_le (by rw [Hlen.out]; exact Nat.le_refl _)] at hs2
      have H2 := Lib.hid hs2
      have Hdl := Lib.hid (show d.length = nd from by have := hown.1; simpa using this)
      obtain ⟨_, _, hv, h1, h2⟩ := own_shape hown
      injection hv with hA hn hc'
      subst hA hc'
      obtain ⟨_, _, hv, h3, h4⟩ := own_shape hown2
      injection hv with hA hn hc'
      subst hA hc'
      clear hs2
      go_wp2
      go_ret2
      unfold Parted
      rw [H2.out, Hlen.out]
      simp only [Hdl.out]
      exact ⟨A1, c1, A2, c2, rfl, h1, h2, h3, h4, hown, hown2, hB⟩
end Go.Proofs.YtfgpbnfobpfacaaGreatDoor
/- The walks of the numbers of layer 1: each function's contract. -/
set_option linter.unusedVariables false
set_option linter.unusedSimpArgs false
namespace Go.Proofs.YtfgpbnfobpfacaaGreatDoor
open Go.RowKit


set_option maxRecDepth 100000 in
set_option maxHeartbeats 400000 in
theorem put_any (A : Option Addr) (l c : Nat) (n : Nat) (xs : List UInt8) (w : World) (hr : Reads w w.heap.size 1 A l (u8s xs)) (hl : l ≤ c) (hc : c ≤ maxLen) (hb : l ≤ 1099511627776) (hn : n < 18446744073709551616) :
    Calls Tryz.prog 97 #[.slice A l c, .int .u64 (n : Int)] w fun e w' => ∃ A' c', e = .returned (.slice A' (l + (leb n).length) c') ∧ l + (leb n).length ≤ c' ∧ c' ≤ maxLen ∧
      w'.ownsRow w.heap.size 5 1 (.slice A' (l + (leb n).length) c') (l + (leb n).length) (u8s (xs ++ leb n)) ∧ Below w.heap.size w w' := by
  obtain ⟨i0, hi0, hz0, hz1, hz2⟩ := info_parts u8_info
  unfold maxLen at hc
  have Hn := Lib.hid hn; clear hn
  go_enter Tryz.func97, Tryz.ntmps97
  go_wp2
  go_loopw [1, 5] (fun u v wr => ∃ (m f k : Nat) (cur : List UInt8) (A1 : Option Addr) (c1 : Nat), u = .int .u64 (m : Int) ∧ v = .slice A1 k c1 ∧ k + f = l + 9 ∧ m < 128 ^ (f + 1) ∧ cur ++ lebF f m = xs ++ leb n ∧ App wr w.heap.size 5 1 A1 k c1 (u8s cur) ∧ Below w.heap.size w wr) (fun u _ _ => (intOf u).toNat)
  case atStart => exact ⟨n, 9, l, xs, A, l, rfl, rfl, rfl, by have := Hn.out; omega, rfl, .inr ⟨rfl, hr⟩, Below.refl _ _⟩
  case round =>
    obtain ⟨m, f, k, cur, A1, c1, rfl, rfl, hk, hm, hcur, happ, hbel⟩ := hrel
    have Hcur := Lib.hid hcur; clear hcur
    have Hk := Lib.hid hk; clear hk
    have Hm := Lib.hid hm; clear hm
    have hk1 : k ≤ l + 9 := by have := Hk.out; omega
    have hs1 : k + 1 ≤ maxLen := by simp only [maxLen]; omega
    have hs2 : (k + 1) * 1 ≤ 70368744177664 := by omega
    have hbase := hbel.size
    by_cases hlt : 128 ≤ m
    · go_wp2_with (at_builtin
                   refine wpList_append_app _ rfl (.tmp 14) (.tmp 18) 22 rfl w.heap.size 5 i0 (.int .u8 0) 1 1 Tryz.underlying22 hi0 hz0 hz1 hz2 rfl (by decide) A1 k c1 (u8s cur) rfl (happ.alloc _) _ 1 1 _ rfl (reads_new _ _ _) (one_int _ _) (by decide) hs1 hs2 (by simp; omega) ?_
                   intro A2 c2 w2 hown2 hb2 hg2 hc2 hm2)
      have hcur' : (cur ++ [UInt8.ofNat (m % 128 + 128)]) ++ lebF (f - 1) (m / 128) = xs ++ leb n ∧ 1 ≤ f := by
        have h1 := Hcur.out
        have h2 := Hm.out
        cases f with
        | zero => simp at h2; omega
        | succ f => rw [← h1]; simp [lebF, Nat.not_lt.2 hlt]
      rw [u8_or128, ← u8s_append] at hown2
      go_roundw
      case rel => 
        refine ⟨m / 128, f - 1, k + 1, _, A2, c2, by go_num, rfl, by have := Hk.out; omega, ?_, hcur'.1, .inl hown2, (hbel.alloc hbase _).trans hb2⟩
        have h2 := Hm.out
        obtain ⟨f, rfl⟩ : ∃ g, f = g + 1 := ⟨f - 1, by omega⟩
        rw [Nat.pow_succ] at h2
        exact Nat.div_lt_of_lt_mul (by rw [Nat.mul_comm]; exact h2)
      case measure => simp [intOf]; omega
    · go_wp2_with (at_builtin
                   refine wpList_append_app _ rfl (.tmp 22) (.tmp 25) 22 rfl w.heap.size 5 i0 (.int .u8 0) 1 1 Tryz.underlying22 hi0 hz0 hz1 hz2 rfl (by decide) A1 k c1 (u8s cur) rfl (happ.alloc _) _ 1 1 _ rfl (reads_new _ _ _) (one_int _ _) (by decide) hs1 hs2 (by simp; omega) ?_
                   intro A2 c2 w2 hown2 hb2 hg2 hc2 hm2)
      have hcells : u8s cur ++ [Value.int .u8 (m : Int)] = u8s (xs ++ leb n) := by
        rw [← Hcur.out, lebF_small f m (by omega), u8_cell m (by omega), u8s_append]
      have hlen : k + 1 = l + (leb n).length := by
        have h1 := hown2.1
        rw [hcells] at h1
        have h2 := hr.1
        simp at h1 h2
        omega
      rw [hcells] at hown2
      go_ret
      rw [← hlen]
      exact ⟨A2, c2, rfl, hc2, hm2, hown2, (hbel.alloc hbase _).trans hb2⟩

theorem bitLen_two (n : Nat) (h : 1 ≤ n) (hn : n < 18446744073709551616) : n < 2 ^ Lib.bitLen n ∧ 2 ^ (Lib.bitLen n - 1) ≤ n ∧ 1 ≤ Lib.bitLen n ∧ Lib.bitLen n ≤ 64 := by
  have key : ∀ k n : Nat, n < 2 ^ k → k ≤ 64 → 1 ≤ n → n < 2 ^ Lib.bitLen n ∧ 2 ^ (Lib.bitLen n - 1) ≤ n ∧ 1 ≤ Lib.bitLen n := by
    intro k
    induction k with
    | zero => intro n h1 _ h2; simp at h1; omega
    | succ k ih =>
      intro n h1 hk h2
      have h64 : n < 2 ^ 64 := Nat.lt_of_lt_of_le h1 (Nat.pow_le_pow_right (by omega) hk)
      rw [Lib.bitLen_half n (by omega) h64]
      by_cases h3 : n < 2
      · obtain rfl : n = 1 := by omega
        decide
      · obtain ⟨g1, g2, g3⟩ := ih (n / 2) (by rw [Nat.pow_succ] at h1; omega) (by omega) (by omega)
        refine ⟨?_, ?_, by omega⟩
        · rw [Nat.pow_add]; omega
        · obtain ⟨j, hj⟩ : ∃ j, Lib.bitLen (n / 2) = j + 1 := ⟨Lib.bitLen (n / 2) - 1, by omega⟩
          rw [hj] at g2 ⊢
          simp only [Nat.add_sub_cancel] at g2
          rw [show 1 + (j + 1) - 1 = j + 1 from by omega, Nat.pow_succ]
          omega
  obtain ⟨a, b, c⟩ := key 64 n hn (Nat.le_refl _) h
  exact ⟨a, b, c, Lib.bitLen_le n 64 (Nat.le_refl _) hn⟩

set_option maxRecDepth 100000 in
theorem len64_or (n : Nat) (w : World) (hn : n < 18446744073709551616) :
    Calls Tryz.prog 163 #[.int .u64 (bits .or .u64 (n : Int) 1)] w fun e w' => (∃ b : Nat, e = .returned (.int .i64 (b : Int)) ∧ 1 ≤ b ∧ b ≤ 64 ∧ Hid ((b + 6) / 7 = (leb n).length)) ∧ w = w' := by
  rw [show (1 : Int) = ((1 : Nat) : Int) from rfl, u64_or_nat n 1 hn (by omega)]
  have hor : n ||| 1 < 18446744073709551616 := by
    have := Nat.or_lt_two_pow (n := 64) (x := n) (y := 1) (by omega) (by omega)
    omega
  have h1 : 1 ≤ n ||| 1 := Nat.right_le_or
  obtain ⟨a, b, c, d⟩ := bitLen_two (n ||| 1) h1 hor
  refine (len64_any _ w (by omega) (by omega)).mono ?_
  rintro e w' ⟨rfl, rfl⟩
  rw [Int.toNat_natCast]
  exact ⟨⟨_, rfl, c, d, leb_size n _ hn a b⟩, rfl⟩

theorem cast_div7 (b : Nat) : ((b : Int) + 6) / 7 = (((b + 6) / 7 : Nat) : Int) := by omega

theorem u64_mod (n : Nat) : (n : Int) % 18446744073709551616 = ((n % 18446744073709551616 : Nat) : Int) := by omega

theorem zig_bits (n : Int) (h1 : -9223372036854775808 ≤ n) (h2 : n ≤ 9223372036854775807) :
    bits .xor .u64 (IntKind.u64.wrap (IntKind.u64.wrap n * 2)) (IntKind.u64.wrap (n / 9223372036854775808)) = (zig n : Int) := by
  rw [IntKind.wrap_u64, IntKind.wrap_u64, IntKind.wrap_u64]
  by_cases h : n < 0
  · have e1 : n / 9223372036854775808 = -1 := by omega
    have e2 : (-1 : Int) % 18446744073709551616 = ((18446744073709551615 : Nat) : Int) := by decide
    have e3 : n % 18446744073709551616 * 2 % 18446744073709551616 = ((2 * n + 18446744073709551616).toNat : Int) := by omega
    rw [e1, e2, e3, u64_xor_nat _ _ (by omega) (by omega)]
    have e4 : (2 * n + 18446744073709551616).toNat ^^^ 18446744073709551615 = 18446744073709551615 - (2 * n + 18446744073709551616).toNat := by
      have hx : (2 * n + 18446744073709551616).toNat < 2 ^ 64 := by omega
      generalize (2 * n + 18446744073709551616).toNat = x at hx ⊢
      have := BitVec.toNat_not (x := BitVec.ofNat 64 x)
      rw [BitVec.not_def] at this
      simp only [BitVec.toNat_xor, BitVec.toNat_ofNat, BitVec.toNat_allOnes] at this
      rw [Nat.mod_eq_of_lt hx] at this
      rw [Nat.xor_comm]
      simpa using this
    rw [e4]
    unfold zig
    rw [if_pos h]
    omega
  · have e1 : n / 9223372036854775808 = 0 := by omega
    have e3 : n % 18446744073709551616 * 2 % 18446744073709551616 = ((2 * n).toNat : Int) := by omega
    rw [e1, e3, show (0 : Int) % 18446744073709551616 = ((0 : Nat) : Int) from rfl, u64_xor_nat _ _ (by omega) (by omega), Nat.xor_zero]
    unfold zig
    rw [if_neg h]

set_option maxRecDepth 100000 in
set_option maxHeartbeats 400000 in
theorem zig_any (n : Int) (w : World) (h1 : -9223372036854775808 ≤ n) (h2 : n ≤ 9223372036854775807) :
    Calls Tryz.prog 121 #[.int .i64 n] w fun e w' => e = .returned (.int .u64 (zig n : Int)) ∧ w = w' := by
  have Hz := Lib.hid (zig_bits n h1 h2)
  clear h1 h2
  go_enter Tryz.func121, Tryz.ntmps121
  go_wp2
  go_ret
  exact ⟨congrArg (fun x => Ending.returned (.int .u64 x)) Hz.out, rfl⟩

theorem zag_bits (n : Nat) (h : n < 18446744073709551616) :
    bits .xor .i64 (wrap64 ((n : Int) / 2)) (wrap64 (-wrap64 (bits .and .u64 (n : Int) 1))) = zag n := by
  have e1 : bits .and .u64 (n : Int) 1 = ((n % 2 : Nat) : Int) := by
    rw [show (1 : Int) = ((1 : Nat) : Int) from rfl, u64_and_nat _ _ h (by omega), nat_mask1]
  have e2 : wrap64 ((n : Int) / 2) = ((n / 2 : Nat) : Int) := by unfold wrap64; omega
  rw [e1, e2]
  have hx : n / 2 < 2 ^ 63 := by omega
  unfold zag
  by_cases h1 : n % 2 = 1
  · rw [if_pos h1, h1]
    have e3 : wrap64 (-wrap64 ((1 : Nat) : Int)) = -1 := by unfold wrap64; omega
    rw [e3]
    show IntKind.i64.wrap ((BitVec.ofInt 64 ((n / 2 : Nat) : Int) ^^^ BitVec.ofInt 64 (-1)).toNat : Int) = _
    generalize n / 2 = x at hx
    have e4 : BitVec.ofInt 64 (-1) = BitVec.allOnes 64 := by decide
    rw [e4, BitVec.ofInt_natCast, BitVec.xor_comm, ← BitVec.not_def, BitVec.toNat_not, BitVec.toNat_ofNat, IntKind.wrap_i64]
    omega
  · have h0 : n % 2 = 0 := by omega
    rw [if_neg h1, h0]
    have e3 : wrap64 (-wrap64 ((0 : Nat) : Int)) = 0 := by unfold wrap64; omega
    rw [e3]
    show IntKind.i64.wrap ((BitVec.ofInt 64 ((n / 2 : Nat) : Int) ^^^ BitVec.ofInt 64 0).toNat : Int) = _
    generalize n / 2 = x at hx
    have e4 : BitVec.ofInt 64 0 = 0#64 := by decide
    rw [e4, BitVec.ofInt_natCast, BitVec.xor_zero, BitVec.toNat_ofNat, IntKind.wrap_i64]
    omega

set_option maxRecDepth 100000 in
set_option maxHeartbeats 400000 in
theorem zag_any (n : Nat) (w : World) (hn : n < 18446744073709551616) :
    Calls Tryz.prog 123 #[.int .u64 (n : Int)] w fun e w' => e = .returned (.int .i64 (zag n)) ∧ w = w' := by
  have Hz := Lib.hid (zag_bits n hn)
  clear hn
  go_enter Tryz.func123, Tryz.ntmps123
  go_wp2
  go_ret
  exact ⟨congrArg (fun x => Ending.returned (.int .i64 x)) Hz.out, rfl⟩

set_option maxRecDepth 100000 in
set_option maxHeartbeats 400000 in
theorem putInt_any (A : Option Addr) (l c : Nat) (n : Int) (xs : List UInt8) (w : World) (hr : Reads w w.heap.size 1 A l (u8s xs)) (hl : l ≤ c) (hc : c ≤ maxLen) (hb : l ≤ 1099511627776) (h1 : -9223372036854775808 ≤ n) (h2 : n ≤ 9223372036854775807) :
    Calls Tryz.prog 93 #[.slice A l c, .int .i64 n] w fun e w' => ∃ A' c', e = .returned (.slice A' (l + (leb (zig n)).length) c') ∧ l + (leb (zig n)).length ≤ c' ∧ c' ≤ maxLen ∧
      w'.ownsRow w.heap.size 5 1 (.slice A' (l + (leb (zig n)).length) c') (l + (leb (zig n)).length) (u8s (xs ++ leb (zig n))) ∧ Below w.heap.size w w' := by
  have H1 := Lib.hid h1
  have H2 := Lib.hid h2
  clear h1 h2
  go_enter Tryz.func93, Tryz.ntmps93
  go_wp2_with (first
    | (go_at_call 121; refine (zig_any _ _ H1.out H2.out).mono ?_; rintro e w' ⟨rfl, rfl⟩)
    | (go_at_call 97; refine (put_any A l c _ xs _ hr hl hc hb (zig_lt n H1.out H2.out)).mono ?_; rintro e w1 ⟨A', c', rfl, hc1, hc2, hown, hbel⟩))
  go_ret
  exact ⟨A', c', rfl, hc1, hc2, hown, hbel⟩
end Go.Proofs.YtfgpbnfobpfacaaGreatDoor
set_option linter.unusedVariables false
set_option linter.unusedSimpArgs false
namespace Go.Proofs.YtfgpbnfobpfacaaGreatDoor
open Go.RowKit
theorem pow_cast (k : Nat) : (2 : Int) ^ (7 * k) = ((128 ^ k : Nat) : Int) := by
  rw [Int.natCast_pow, Int.pow_mul]; rfl
theorem or_join (acc x k : Nat) (h : acc < 128 ^ k) : acc ||| x * 128 ^ k = acc + x * 128 ^ k := by
  have e : (128 : Nat) ^ k = 2 ^ (7 * k) := by rw [Nat.pow_mul]
  rw [e] at h ⊢
  rw [Nat.or_comm, nat_join (7 * k) _ _ (Nat.mul_mod_left _ _) h, Nat.add_comm]
theorem get_last (acc b k : Nat) (hk : k ≤ 9) (h : acc < 128 ^ k) (hb : b < 128) (h9 : k = 9 → b ≤ 1) :
    bits .or .u64 (acc : Int) (IntKind.u64.wrap ((b : Int) * 2 ^ (7 * k))) = ((acc + b * 128 ^ k : Nat) : Int) := by
  have e9 : (128 : Nat) ^ 9 = 9223372036854775808 := by decide
  have h64 : b * 128 ^ k < 18446744073709551616 := by
    rcases Nat.lt_or_ge k 9 with hlt | hge
    · have h8 : 128 ^ k ≤ 128 ^ 8 := Nat.pow_le_pow_right (by omega) (by omega)
      have e8 : (128 : Nat) ^ 8 = 72057594037927936 := by decide
      have := Nat.mul_le_mul (Nat.le_of_lt_succ hb : b ≤ 127) h8
      rw [e8] at this
      omega
    · obtain rfl : k = 9 := by omega
      have := h9 rfl
      rw [e9]
      omega
  have hacc : acc < 18446744073709551616 := by
    have : 128 ^ k ≤ 128 ^ 9 := Nat.pow_le_pow_right (by omega) hk
    omega
  have e : ((b : Int) * ((128 ^ k : Nat) : Int)) = ((b * 128 ^ k : Nat) : Int) := by rw [Int.natCast_mul]
  rw [pow_cast, e, IntKind.wrap_u64]
  generalize hx : b * 128 ^ k = x at h64 ⊢
  have em : (x : Int) % 18446744073709551616 = (x : Int) := by omega
  rw [em, u64_or_nat _ _ hacc h64, ← hx, or_join _ _ _ h]
theorem get_nine (acc b : Nat) (h : acc < 128 ^ 9) (hb : b ≤ 1) : bits .or .u64 (acc : Int) ((b : Int) * 9223372036854775808) = ((acc + b * 128 ^ 9 : Nat) : Int) := by
  rw [← get_last acc b 9 (by omega) h (by omega) (fun _ => hb)]
  congr 1
  have e : (2 : Int) ^ (7 * 9) = 9223372036854775808 := by decide
  rw [e, IntKind.wrap_u64]
  omega
theorem get_more (acc b k : Nat) (hk : k ≤ 8) (h : acc < 128 ^ k) (hb : b < 256) :
    bits .or .u64 (acc : Int) (IntKind.u64.wrap (IntKind.u64.wrap (bits .andNot .u8 (b : Int) 128) * 2 ^ (7 * k))) = ((acc + b % 128 * 128 ^ k : Nat) : Int) := by
  have h2 : ∀ k, k < 256 → k &&& (255 - 128) = k % 128 := by decide +kernel
  rw [show (128 : Int) = ((128 : Nat) : Int) from rfl, u8_andNot_nat b 128 hb (by omega), h2 b hb]
  have : IntKind.u64.wrap ((b % 128 : Nat) : Int) = ((b % 128 : Nat) : Int) := by rw [IntKind.wrap_u64]; omega
  rw [this]
  exact get_last acc (b % 128) k (by omega) h (by omega) (by omega)
theorem get_step (xs : List UInt8) (k acc : Nat) (b : UInt8) (h : get xs = getL (xs.drop k) k acc) (hb : xs[k]? = some b) :
    get xs = if k = 9 ∧ 1 < b.toNat then (0, 0, 6) else if 0 < k ∧ b.toNat = 0 then (0, 0, 10) else if b.toNat < 128 then (acc + b.toNat * 128 ^ k, k + 1, 0) else getL (xs.drop (k + 1)) (k + 1) (acc + b.toNat % 128 * 128 ^ k) := by
  rw [h]
  obtain ⟨hlt, rfl⟩ := List.getElem?_eq_some_iff.1 hb
  rw [List.drop_eq_getElem_cons hlt]
  rfl
theorem get_end (xs : List UInt8) (k acc : Nat) (h : get xs = getL (xs.drop k) k acc) (hb : xs.length ≤ k) : get xs = (0, 0, 3) := by
  rw [h, List.drop_of_length_le hb]; rfl
theorem acc_more (acc k x : Nat) (h : acc < 128 ^ k) (hx : x < 128) : acc + x * 128 ^ k < 128 ^ (k + 1) := by
  rw [Nat.pow_succ]
  have : x * 128 ^ k ≤ 127 * 128 ^ k := Nat.mul_le_mul_right _ (by omega)
  omega
/-- What Get hands back. -/
def gotten (r : Nat × Nat × Nat) : Ending := .returned (.tuple #[.int .u64 (r.1 : Int), .int .i64 (r.2.1 : Int), .int .i64 (r.2.2 : Int)])
set_option maxRecDepth 100000 in
set_option maxHeartbeats 400000 in
theorem get_any (A : Option Addr) (l c : Nat) (xs : List UInt8) (w : World) (hr : Reads w w.heap.size 1 A l (u8s xs)) (hl : l ≤ c) (hc : c ≤ maxLen) :
    Calls Tryz.prog 105 #[.slice A l c] w fun e w' => e = gotten (get xs) ∧ w = w' := by
  unfold maxLen at hc
  have Hlen := Lib.hid (show xs.length = l by have := hr.1; simpa using this)
  go_enter Tryz.func105, Tryz.ntmps105
  go_wp2
  go_loop [2, 10] (fun u i => ∃ (k acc : Nat), k ≤ 9 ∧ k ≤ l ∧ i = .int .i64 (k : Int) ∧ u = .int .u64 (acc : Int) ∧ Hid (acc < 128 ^ k) ∧ Hid (get xs = getL (xs.drop k) k acc)) (fun _ i => 10 - (intOf i).toNat)
  case atStart => exact ⟨0, 0, by omega, by omega, rfl, rfl, by show (0:Nat) < 1; omega, rfl⟩
  case round =>
    obtain ⟨k, acc, hk9, hkl, rfl, rfl, Hacc, Hget⟩ := hrel
    by_cases hlt : k < l
    · obtain ⟨ad, v, rfl, _, hx, hcell⟩ := hr.at_ hlt
      obtain ⟨b, hb, rfl⟩ := u8s_get xs k v hx
      have Hstep := Lib.hid (get_step xs k acc b Hget.out hb)
      clear hx hb
      have hb256 : b.toNat < 256 := b.toNat_lt
      have t0 : ((b.toNat : Int) == 0) = true → b.toNat = 0 := fun h => by simpa using h
      have f0 : ((b.toNat : Int) == 0) = false → b.toNat ≠ 0 := fun h => by simpa using h
      have T0 := Lib.hid t0
      have F0 := Lib.hid f0
      clear t0 f0
      go_wp2
      · go_ret3
        exact ⟨by rw [Hstep.out, if_pos ⟨by omega, by omega⟩]; rfl, rfl⟩
      · go_ret3
        have h0 := T0.out (by assumption)
        exact ⟨by rw [Hstep.out, if_neg (by omega), if_pos ⟨by omega, h0⟩]; rfl, rfl⟩
      · go_ret3
        have h0 := F0.out (by assumption)
        have h9 : k = 9 := by omega
        refine ⟨?_, rfl⟩
        subst h9
        have hl := get_nine acc b.toNat Hacc.out (by omega)
        rw [Hstep.out, if_neg (by omega), if_neg (by omega), if_pos (by omega), gotten, ← hl]
        rfl
      · go_ret3
        have h0 := T0.out (by assumption)
        exact ⟨by rw [Hstep.out, if_neg (by omega), if_pos ⟨by omega, h0⟩]; rfl, rfl⟩
      · go_ret3
        have h0 := F0.out (by assumption)
        have hl := get_last acc b.toNat k hk9 Hacc.out (by omega) (by omega)
        exact ⟨by rw [Hstep.out, if_neg (by omega), if_neg (by omega), if_pos (by omega), gotten, ← hl]; rfl, rfl⟩
      · have h0 := F0.out (by assumption)
        have hl := get_more acc b.toNat k (by omega) Hacc.out (by omega)
        go_round
        case rel => exact ⟨k + 1, _, by omega, by omega, by go_num, by rw [hl], acc_more _ _ _ Hacc.out (by omega), by rw [Hstep.out, if_neg (by omega), if_neg (by omega), if_neg (by omega)]; rfl⟩
        case measure => simp [intOf]; omega
      · go_ret3
        have hl := get_last acc b.toNat k hk9 Hacc.out (by omega) (by omega)
        exact ⟨by rw [Hstep.out, if_neg (by omega), if_neg (by omega), if_pos (by omega), gotten, ← hl]; rfl, rfl⟩
      · have hl := get_more acc b.toNat k (by omega) Hacc.out (by omega)
        go_round
        case rel => exact ⟨k + 1, _, by omega, by omega, by go_num, by rw [hl], acc_more _ _ _ Hacc.out (by omega), by rw [Hstep.out, if_neg (by omega), if_neg (by omega), if_neg (by omega)]; rfl⟩
        case measure => simp [intOf]; omega
    · go_wp2
      go_ret3
      exact ⟨by rw [get_end xs k acc Hget.out (by rw [Hlen.out]; omega)]; rfl, rfl⟩

theorem pow_le8 (k : Nat) (hk : k ≤ 8) : 128 ^ k ≤ 72057594037927936 := by
  have h8 : 128 ^ k ≤ 128 ^ 8 := Nat.pow_le_pow_right (by omega) hk
  have e8 : (128 : Nat) ^ 8 = 72057594037927936 := by decide
  omega
theorem refget_more (acc b k : Nat) (hk : k ≤ 8) (h : acc < 128 ^ k) (hb : b < 256) :
    IntKind.u64.wrap ((acc : Int) + IntKind.u64.wrap ((b : Int) % 128 * (128 : Int) ^ k)) = ((acc + b % 128 * 128 ^ k : Nat) : Int) := by
  have h8 := pow_le8 k hk
  have e : ((b : Int) % 128 * (128 : Int) ^ k) = ((b % 128 * 128 ^ k : Nat) : Int) := by rw [Int.natCast_mul, Int.natCast_pow]; rfl
  rw [e, IntKind.wrap_u64, IntKind.wrap_u64]
  have : b % 128 * 128 ^ k ≤ 127 * 72057594037927936 := Nat.mul_le_mul (by omega) h8
  omega
theorem refget_last (acc b k : Nat) (hk : k ≤ 8) (h : acc < 128 ^ k) (hb : b < 128) :
    IntKind.u64.wrap ((acc : Int) + IntKind.u64.wrap ((b : Int) % 128 * (128 : Int) ^ k)) = ((acc + b * 128 ^ k : Nat) : Int) := by
  rw [refget_more acc b k hk h (by omega), Nat.mod_eq_of_lt hb]
theorem refget_nine (acc b : Nat) (h : acc < 128 ^ 9) (hb : b ≤ 1) :
    IntKind.u64.wrap ((acc : Int) + (b : Int) % 128 * 9223372036854775808) = ((acc + b * 128 ^ 9 : Nat) : Int) := by
  have e9 : (128 : Nat) ^ 9 = 9223372036854775808 := by decide
  rw [e9] at h ⊢
  rw [IntKind.wrap_u64]
  omega
theorem refget_pow (k : Nat) (hk : k ≤ 8) : Value.int .u64 (IntKind.u64.wrap ((128 : Int) ^ k * 128)) = Value.int .u64 ((128 : Int) ^ (k + 1)) := by
  have h8 := pow_le8 k hk
  have e : (128 : Int) ^ k = ((128 ^ k : Nat) : Int) := by rw [Int.natCast_pow]; rfl
  rw [IntKind.wrap_u64, Int.pow_succ, e]
  generalize 128 ^ k = q at h8 ⊢
  congr 1
  omega
set_option maxRecDepth 100000 in
set_option maxHeartbeats 400000 in
theorem refGet_any (A : Option Addr) (l c : Nat) (xs : List UInt8) (w : World) (hr : Reads w w.heap.size 1 A l (u8s xs)) (hl : l ≤ c) (hc : c ≤ maxLen) :
    Calls Tryz.prog 65 #[.slice A l c] w fun e w' => e = gotten (get xs) ∧ w = w' := by
  unfold maxLen at hc
  have Hlen := Lib.hid (show xs.length = l by have := hr.1; simpa using this)
  go_enter Tryz.func65, Tryz.ntmps65
  go_wp2
  go_loop [5, 6, 7] (fun u p i => ∃ (k acc : Nat), k ≤ 9 ∧ k ≤ l ∧ i = .int .i64 (k : Int) ∧ u = .int .u64 (acc : Int) ∧ p = .int .u64 ((128 : Int) ^ k) ∧ Hid (acc < 128 ^ k) ∧ Hid (get xs = getL (xs.drop k) k acc)) (fun _ _ i => 10 - (intOf i).toNat)
  case atStart => exact ⟨0, 0, by omega, by omega, rfl, rfl, rfl, by show (0:Nat) < 1; omega, rfl⟩
  case round =>
    obtain ⟨k, acc, hk9, hkl, rfl, rfl, rfl, Hacc, Hget⟩ := hrel
    by_cases hlt : k < l
    · obtain ⟨ad, v, rfl, _, hx, hcell⟩ := hr.at_ hlt
      obtain ⟨b, hb, rfl⟩ := u8s_get xs k v hx
      have Hstep := Lib.hid (get_step xs k acc b Hget.out hb)
      clear hx hb
      have hb256 : b.toNat < 256 := b.toNat_lt
      have t0 : ((b.toNat : Int) == 0) = true → b.toNat = 0 := fun h => by simpa using h
      have f0 : ((b.toNat : Int) == 0) = false → b.toNat ≠ 0 := fun h => by simpa using h
      have T0 := Lib.hid t0
      have F0 := Lib.hid f0
      clear t0 f0
      by_cases h9 : k = 9
      · subst h9
        have hcell9 : w.cell? ⟨ad.block, ad.off + 9, none⟩ = some (.int .u8 (b.toNat : Int)) := by simpa [Addr.add] using hcell
        clear hcell
        go_wp2
        · go_ret3
          exact ⟨by rw [Hstep.out, if_pos ⟨trivial, by omega⟩]; rfl, rfl⟩
        · go_ret3
          have h0 := T0.out (by assumption)
          exact ⟨by rw [Hstep.out, if_neg (by omega), if_pos ⟨by omega, h0⟩]; rfl, rfl⟩
        · have h0 := F0.out (by assumption)
          have hl := refget_nine acc b.toNat Hacc.out (by omega)
          go_ret3
          exact ⟨by rw [Hstep.out, if_neg (by omega), if_neg (by omega), if_pos (by omega), gotten, ← hl]; rfl, rfl⟩
      · go_wp2
        · go_ret3
          have h0 := T0.out (by assumption)
          exact ⟨by rw [Hstep.out, if_neg (by omega), if_pos ⟨by omega, h0⟩]; rfl, rfl⟩
        · go_ret3
          have h0 := F0.out (by assumption)
          have hl := refget_last acc b.toNat k (by omega) Hacc.out (by omega)
          exact ⟨by rw [Hstep.out, if_neg (by omega), if_neg (by omega), if_pos (by omega), gotten, ← hl]; rfl, rfl⟩
        · have h0 := F0.out (by assumption)
          have hl := refget_more acc b.toNat k (by omega) Hacc.out (by omega)
          go_round
          case rel => exact ⟨k + 1, _, by omega, by omega, by go_num, by rw [hl], refget_pow k (by omega), acc_more _ _ _ Hacc.out (by omega), by rw [Hstep.out, if_neg (by omega), if_neg (by omega), if_neg (by omega)]; rfl⟩
          case measure => simp [intOf]; omega
        · go_ret3
          have hl := refget_last acc b.toNat k (by omega) Hacc.out (by omega)
          exact ⟨by rw [Hstep.out, if_neg (by omega), if_neg (by omega), if_pos (by omega), gotten, ← hl]; rfl, rfl⟩
        · have hl := refget_more acc b.toNat k (by omega) Hacc.out (by omega)
          go_round
          case rel => exact ⟨k + 1, _, by omega, by omega, by go_num, by rw [hl], refget_pow k (by omega), acc_more _ _ _ Hacc.out (by omega), by rw [Hstep.out, if_neg (by omega), if_neg (by omega), if_neg (by omega)]; rfl⟩
          case measure => simp [intOf]; omega
    · go_wp2
      go_ret3
      exact ⟨by rw [get_end xs k acc Hget.out (by rw [Hlen.out]; omega)]; rfl, rfl⟩
end Go.Proofs.YtfgpbnfobpfacaaGreatDoor
