/- Part 7 of the walks, merged: each text under its own heading. Conditions: none of its own; each lemma states what it asks. -/
import Derived.Test.YtfgpbnfobpfacaaGreatDoorPart6
/- The helpers of the references, and the references of layer 1: each one's contract. -/
set_option linter.unusedVariables false
set_option linter.unusedSimpArgs false
namespace Go.Proofs.YtfgpbnfobpfacaaGreatDoor
open Go.RowKit

set_option maxRecDepth 100000 in
set_option maxHeartbeats 400000 in
theorem refbytes_any (n : Nat) (w : World) (hn : n < 18446744073709551616) :
    Calls Tryz.prog 99 #[.int .u64 (n : Int)] w fun e w' => ∃ A' c', e = .returned (.slice A' (leb n).length c') ∧ (leb n).length ≤ c' ∧ c' ≤ maxLen ∧
      w'.ownsRow w.heap.size 5 1 (.slice A' (leb n).length c') (leb n).length (u8s (leb n)) ∧ Below w.heap.size w w' := by
  obtain ⟨i0, hi0, hz0, hz1, hz2⟩ := info_parts u8_info
  have Hn := Lib.hid hn; clear hn
  go_enter Tryz.func99, Tryz.ntmps99
  go_wp2
  go_loopw [0, 3] (fun u v wr => ∃ (m f k : Nat) (cur : List UInt8) (A1 : Option Addr) (c1 : Nat), u = .int .u64 (m : Int) ∧ v = .slice A1 k c1 ∧ Hid (k + f = 9) ∧ Hid (m < 128 ^ (f + 1)) ∧ Hid (m < 18446744073709551616) ∧ Hid (cur ++ lebF f m = leb n) ∧ wr.ownsRow w.heap.size 5 1 (.slice A1 k c1) k (u8s cur) ∧ Below w.heap.size w wr) (fun u _ _ => (intOf u).toNat)
  case atStart => exact ⟨n, 9, 0, [], none, 0, rfl, rfl, rfl, by have := Hn.out; show n < 128 ^ (9 + 1); omega, Hn, rfl, World.ownsRow_nil _ _ _ _, Below.refl _ _⟩
  case round =>
    obtain ⟨m, f, k, cur, A1, c1, rfl, rfl, Hk, Hm, Hm64, Hcur, hown, hbel⟩ := hrel
    have hk1 : k ≤ 9 := by have := Hk.out; omega
    have hs1 : k + 1 ≤ maxLen := by simp only [maxLen]; omega
    have hs2 : (k + 1) * 1 ≤ 70368744177664 := by omega
    have hbase := hbel.size
    by_cases hlt : 128 ≤ m
    · have hw1 : ((m : Int) % 128 + 128) = ((m % 128 + 128 : Nat) : Int) := by omega
      have Hw1 := Lib.hid hw1
      clear hw1
      go_wp2_with (at_builtin
                   refine wpList_append_any _ rfl (.tmp 6) (.tmp 11) 22 rfl w.heap.size 5 i0 (.int .u8 0) 1 1 Tryz.underlying22 hi0 hz0 hz1 hz2 rfl (by decide) A1 k c1 (u8s cur) rfl (hown.alloc _) _ 1 1 _ rfl (reads_new _ _ _) (one_int _ _) hs1 hs2 (by simp; omega) ?_
                   intro A2 c2 w2 hown2 hb2 hg2 hc2 hm2)
      have hv : [Value.int .u8 ((m : Int) % 128 + 128)] = u8s [UInt8.ofNat (m % 128 + 128)] := by rw [Hw1.out, u8_cell _ (by omega)]
      rw [hv, ← u8s_append] at hown2
      have hcur' : (cur ++ [UInt8.ofNat (m % 128 + 128)]) ++ lebF (f - 1) (m / 128) = leb n ∧ 1 ≤ f := by
        have h1 := Hcur.out
        have h2 := Hm.out
        cases f with
        | zero => simp at h2; omega
        | succ f => rw [← h1]; simp [lebF, Nat.not_lt.2 hlt]
      have hdiv : IntKind.u64.wrap ((m : Int) / 128) = ((m / 128 : Nat) : Int) := by
        have := Hm64.out
        rw [IntKind.wrap_u64]; omega
      go_roundw
      case rel =>
        refine ⟨m / 128, f - 1, k + 1, _, A2, c2, by rw [hdiv], rfl, by have := Hk.out; show k + 1 + (f - 1) = 9; omega, ?_, ?_, hcur'.1, hown2, (hbel.alloc hbase _).trans hb2⟩
        · have h2 := Hm.out
          show m / 128 < 128 ^ (f - 1 + 1)
          obtain ⟨f, rfl⟩ : ∃ g, f = g + 1 := ⟨f - 1, by omega⟩
          rw [Nat.pow_succ] at h2
          exact Nat.div_lt_of_lt_mul (by rw [Nat.mul_comm]; exact h2)
        · have := Hm64.out
          show m / 128 < 18446744073709551616
          omega
      case measure => simp [intOf, hdiv]; omega
    · go_wp2_with (at_builtin
                   refine wpList_append_any _ rfl (.tmp 15) (.tmp 18) 22 rfl w.heap.size 5 i0 (.int .u8 0) 1 1 Tryz.underlying22 hi0 hz0 hz1 hz2 rfl (by decide) A1 k c1 (u8s cur) rfl (hown.alloc _) _ 1 1 _ rfl (reads_new _ _ _) (one_int _ _) hs1 hs2 (by simp; omega) ?_
                   intro A2 c2 w2 hown2 hb2 hg2 hc2 hm2)
      have hcells : u8s cur ++ [Value.int .u8 (m : Int)] = u8s (leb n) := by
        rw [← Hcur.out, lebF_small f m (by omega), u8_cell m (by omega), u8s_append]
      have hlen : k + 1 = (leb n).length := by
        have h1 := hown2.1
        rw [hcells] at h1
        simp at h1
        omega
      rw [hcells] at hown2
      go_ret
      rw [← hlen]
      exact ⟨A2, c2, rfl, hc2, hm2, hown2, (hbel.alloc hbase _).trans hb2⟩

set_option maxRecDepth 100000 in
set_option maxHeartbeats 400000 in
theorem refPut_any (A : Option Addr) (l c : Nat) (n : Nat) (xs : List UInt8) (w : World) (hr : Reads w w.heap.size 1 A l (u8s xs)) (hb : l ≤ 1099511627776) (hn : n < 18446744073709551616) :
    Calls Tryz.prog 55 #[.slice A l c, .int .u64 (n : Int)] w fun e w' => ∃ A' c', e = .returned (.slice A' (l + (leb n).length) c') ∧ l + (leb n).length ≤ c' ∧ c' ≤ maxLen ∧
      w'.ownsRow w.heap.size 5 1 (.slice A' (l + (leb n).length) c') (l + (leb n).length) (u8s (xs ++ leb n)) ∧ Below w.heap.size w w' := by
  obtain ⟨i0, hi0, hz0, hz1, hz2⟩ := info_parts u8_info
  have Hn := Lib.hid hn; clear hn
  have hlen := leb_le n
  go_enter Tryz.func55, Tryz.ntmps55
  go_wp2_with fail
  refine (copyBytes_any A l c xs _ hr (by omega)).mono ?_
  rintro e w1 ⟨A1, c1, rfl, hc1, hd1, hown1, hb1⟩
  go_wp2_with fail
  refine (refbytes_any n _ Hn.out).mono ?_
  rintro e w2 ⟨A2, c2, rfl, hc2, hd2, hown2, hb2⟩
  have hown1' := own_below hown1 hb2
  have hsz := bon hb1 hb2
  have hbase := hsz.size
  have hs1 : l + (leb n).length ≤ maxLen := by simp only [maxLen]; omega
  have hs2 : (l + (leb n).length) * 1 ≤ 70368744177664 := by omega
  go_wp2_with (at_builtin
               refine wpList_append_any _ rfl (.tmp 6) (.tmp 8) 22 rfl w.heap.size 5 i0 (.int .u8 0) 1 1 Tryz.underlying22 hi0 hz0 hz1 hz2 rfl (by decide) A1 l c1 (u8s xs) rfl hown1' A2 _ c2 (u8s (leb n)) rfl (Reads.of_own hown2) (u8s_one _) hs1 hs2 hbase ?_
               intro A3 c3 w3 hown3 hb3 hg3 hc3 hm3
               rw [← u8s_append] at hown3)
  go_ret
  exact ⟨A3, c3, rfl, hc3, hm3, hown3, hsz.trans hb3⟩

set_option maxRecDepth 100000 in
set_option maxHeartbeats 400000 in
theorem refZig_any (n : Int) (w : World) (h1 : -9223372036854775808 ≤ n) (h2 : n ≤ 9223372036854775807) :
    Calls Tryz.prog 98 #[.int .i64 n] w fun e w' => e = .returned (.int .u64 (zig n : Int)) ∧ w = w' := by
  have H1 := Lib.hid h1
  have H2 := Lib.hid h2
  clear h1 h2
  by_cases hn : n < 0
  · go_enter Tryz.func98, Tryz.ntmps98
    go_wp2
    go_ret
    refine ⟨congrArg (fun x => Ending.returned (.int .u64 x)) ?_, rfl⟩
    have h1 := H1.out
    unfold zig
    rw [if_pos hn]
    simp only [IntKind.wrap_u64, wrap64]
    omega
  · go_enter Tryz.func98, Tryz.ntmps98
    go_wp2
    go_ret
    refine ⟨congrArg (fun x => Ending.returned (.int .u64 x)) ?_, rfl⟩
    have h1 := H2.out
    unfold zig
    rw [if_neg (by omega)]
    simp only [IntKind.wrap_u64]
    omega

set_option maxRecDepth 100000 in
set_option maxHeartbeats 400000 in
theorem refZag_any (n : Nat) (w : World) (hn : n < 18446744073709551616) :
    Calls Tryz.prog 108 #[.int .u64 (n : Int)] w fun e w' => e = .returned (.int .i64 (zag n)) ∧ w = w' := by
  have H1 := Lib.hid hn
  clear hn
  by_cases hn : n % 2 = 1
  · have hb : (((n : Int) % 2) == 1) = true := by simp; omega
    have Hn := Lib.hid hn
    clear hn
    go_enter Tryz.func108, Tryz.ntmps108
    go_wp2
    go_ret
    refine ⟨congrArg (fun x => Ending.returned (.int .i64 x)) ?_, rfl⟩
    have h1 := H1.out
    unfold zag
    rw [if_pos Hn.out]
    simp only [wrap64, IntKind.wrap_u64]
    omega
  · have hb : (((n : Int) % 2) == 1) = false := by simp; omega
    have Hn := Lib.hid hn
    clear hn
    go_enter Tryz.func108, Tryz.ntmps108
    go_wp2
    go_ret
    refine ⟨congrArg (fun x => Ending.returned (.int .i64 x)) ?_, rfl⟩
    have h1 := H1.out
    unfold zag
    rw [if_neg Hn.out]
    simp only [wrap64, IntKind.wrap_u64]
    omega

set_option maxRecDepth 100000 in
set_option maxHeartbeats 400000 in
theorem refPutInt_any (A : Option Addr) (l c : Nat) (n : Int) (xs : List UInt8) (w : World) (hr : Reads w w.heap.size 1 A l (u8s xs)) (hb : l ≤ 1099511627776) (h1 : -9223372036854775808 ≤ n) (h2 : n ≤ 9223372036854775807) :
    Calls Tryz.prog 54 #[.slice A l c, .int .i64 n] w fun e w' => ∃ A' c', e = .returned (.slice A' (l + (leb (zig n)).length) c') ∧ l + (leb (zig n)).length ≤ c' ∧ c' ≤ maxLen ∧
      w'.ownsRow w.heap.size 5 1 (.slice A' (l + (leb (zig n)).length) c') (l + (leb (zig n)).length) (u8s (xs ++ leb (zig n))) ∧ Below w.heap.size w w' := by
  have H1 := Lib.hid h1
  have H2 := Lib.hid h2
  clear h1 h2
  go_enter Tryz.func54, Tryz.ntmps54
  go_wp2_with fail
  refine (refZig_any _ _ H1.out H2.out).mono ?_
  rintro e w' ⟨rfl, rfl⟩
  go_wp2_with fail
  refine (refPut_any A l c _ xs _ hr hb (zig_lt n H1.out H2.out)).mono ?_
  rintro e w1 ⟨A', c', rfl, hc1, hc2, hown, hbel⟩
  go_wp2
  go_ret
  exact ⟨A', c', rfl, hc1, hc2, hown, hbel⟩

/-- What GetInt hands back. -/
def gottenInt (r : Nat × Nat × Nat) : Ending := .returned (.tuple #[.int .i64 (zag r.1), .int .i64 (r.2.1 : Int), .int .i64 (r.2.2 : Int)])
theorem get_lt (xs : List UInt8) : (get xs).1 < 18446744073709551616 := by
  rcases get_only xs with ⟨n, h, hn, _⟩ | ⟨e, h, _⟩
  · rw [h]; exact hn
  · rw [h]; show (0 : Nat) < 18446744073709551616; omega

theorem gotten_ok (n k : Nat) : gotten (n, k, 0) = .returned (.tuple #[.int .u64 (n : Int), .int .i64 (k : Int), .int .i64 0]) := rfl
theorem gottenInt_err (er : Nat) : gottenInt (0, 0, er) = .returned (.tuple #[.int .i64 0, .int .i64 0, .int .i64 (er : Int)]) := by simp [gottenInt, zag]

set_option maxRecDepth 100000 in
set_option maxHeartbeats 400000 in
theorem getInt_any (A : Option Addr) (l c : Nat) (xs : List UInt8) (w : World) (hr : Reads w w.heap.size 1 A l (u8s xs)) (hl : l ≤ c) (hc : c ≤ maxLen) :
    Calls Tryz.prog 103 #[.slice A l c] w fun e w' => e = gottenInt (get xs) ∧ w = w' := by
  have Hlt := Lib.hid (get_lt xs)
  go_enter Tryz.func103, Tryz.ntmps103
  go_wp2_with fail
  refine (get_any A l c xs _ hr hl hc).mono ?_
  rintro e w' ⟨rfl, rfl⟩
  simp only [gotten]
  go_wp2_with fail
  refine (zag_any _ _ Hlt.out).mono ?_
  rintro e w' ⟨rfl, rfl⟩
  go_wp2
  go_ret3
  exact ⟨rfl, rfl⟩

set_option maxRecDepth 100000 in
set_option maxHeartbeats 400000 in
theorem refGetInt_any (A : Option Addr) (l c : Nat) (xs : List UInt8) (w : World) (hr : Reads w w.heap.size 1 A l (u8s xs)) (hl : l ≤ c) (hc : c ≤ maxLen) :
    Calls Tryz.prog 64 #[.slice A l c] w fun e w' => e = gottenInt (get xs) ∧ w = w' := by
  have Hlt := Lib.hid (get_lt xs)
  rcases get_only xs with ⟨n, h, hn, _⟩ | ⟨er, h, he, hsm⟩
  · generalize (leb n).length = k at h
    have H := Lib.hid h
    have Hn := Lib.hid hn
    clear h hn Hlt
    rename_i hz
    clear hz
    go_enter Tryz.func64, Tryz.ntmps64
    go_wp2_with fail
    refine (refGet_any A l c xs _ hr hl hc).mono ?_
    rintro e w' ⟨rfl, rfl⟩
    rw [H.out, gotten_ok]
    go_wp2_with fail
    refine (refZag_any _ _ Hn.out).mono ?_
    rintro e w' ⟨rfl, rfl⟩
    go_wp2
    go_ret3
    exact ⟨by rw [H.out]; rfl, rfl⟩
  · have H := Lib.hid h
    clear h
    have hb : (!((er : Int) == 0)) = true := by simpa using he
    go_enter Tryz.func64, Tryz.ntmps64
    go_wp2_with fail
    refine (refGet_any A l c xs _ hr hl hc).mono ?_
    rintro e w' ⟨rfl, rfl⟩
    rw [H.out]
    simp only [gotten]
    go_wp2
    go_ret3
    exact ⟨by rw [H.out, gottenInt_err]; rfl, rfl⟩

/-- What the law's cut keeps. -/
def cut60 (xs : List UInt8) : List UInt8 := xs.take 60
theorem cut60_le (xs : List UInt8) : (cut60 xs).length ≤ 60 := List.length_take_le _ _
end Go.Proofs.YtfgpbnfobpfacaaGreatDoor
/- Layer 15, walked: Put of the program and of the reference. -/
set_option linter.unusedVariables false
set_option linter.unusedSimpArgs false
namespace Go.Proofs.YtfgpbnfobpfacaaGreatDoor
open Go.RowKit
theorem u64_wrap (n : Nat) (h : n < 18446744073709551616) : IntKind.u64.wrap (n : Int) = (n : Int) := by
  simp only [IntKind.wrap, IntKind.signed, IntKind.bits]
  simp
  omega
theorem bts_len (s : ByteArray) : (bts s).length = s.size := by unfold bts; rw [Array.length_toList]; rfl
/-- How far the texts were put. -/
def Put1 (d : List ByteArray) (ns : List Nat) (tot : List UInt8) (k : Nat) (cur : List UInt8) : Prop := cur ++ ((d.drop k).flatMap putText ++ ns.flatMap leb) = tot
def Put2 (ns : List Nat) (tot : List UInt8) (k : Nat) (cur : List UInt8) : Prop := cur ++ (ns.drop k).flatMap leb = tot
theorem put1_step {d : List ByteArray} {ns : List Nat} {tot : List UInt8} {k : Nat} {cur : List UInt8} {s : ByteArray} (h : Put1 d ns tot k cur) (hs : d[k]? = some s) : Put1 d ns tot (k + 1) (cur ++ leb (bts s).length ++ bts s) ∧ cur.length + (leb (bts s).length).length + (bts s).length ≤ tot.length := by
  unfold Put1 at *
  obtain ⟨hlt, rfl⟩ := List.getElem?_eq_some_iff.1 hs
  rw [List.drop_eq_getElem_cons hlt, List.flatMap_cons] at h
  rw [← h]
  unfold putText
  refine ⟨by simp only [List.append_assoc], ?_⟩
  simp only [List.length_append]
  omega
theorem put1_end {d : List ByteArray} {ns : List Nat} {tot : List UInt8} {cur : List UInt8} (h : Put1 d ns tot d.length cur) : Put2 ns tot 0 cur := by
  unfold Put1 at h
  rw [List.drop_length] at h
  exact h
theorem put2_step {ns : List Nat} {tot : List UInt8} {k n : Nat} {cur : List UInt8} (h : Put2 ns tot k cur) (hs : ns[k]? = some n) : Put2 ns tot (k + 1) (cur ++ leb n) ∧ cur.length + (leb n).length ≤ tot.length := by
  unfold Put2 at *
  obtain ⟨hlt, rfl⟩ := List.getElem?_eq_some_iff.1 hs
  rw [List.drop_eq_getElem_cons hlt, List.flatMap_cons] at h
  rw [← h]
  refine ⟨by simp only [List.append_assoc], ?_⟩
  simp only [List.length_append]
  omega
theorem put2_end {ns : List Nat} {tot : List UInt8} {cur : List UInt8} (h : Put2 ns tot ns.length cur) : cur = tot := by
  unfold Put2 at h
  rw [List.drop_length] at h
  simpa using h
theorem put1_start (l : List ByteArray) (xs : List UInt8) : Put1 (splitL l).1 (splitL l).2 (xs ++ putD l) 0 (xs ++ leb (splitL l).1.length) := by
  unfold Put1 putD
  simp only [List.drop_zero, List.append_assoc]
theorem nns_get (xs : List Nat) (k : Nat) (v : Value) (h : (nns xs)[k]? = some v) : ∃ c : Nat, xs[k]? = some c ∧ v = .int .i64 (c : Int) := by
  simp only [nns, List.getElem?_map, Option.map_eq_some_iff] at h
  obtain ⟨c, h1, h2⟩ := h
  exact ⟨c, h1, h2.symm⟩
theorem split_small (l : List ByteArray) : ∀ n ∈ (splitL l).2, n < (splitL l).1.length := by
  obtain ⟨-, -, h3⟩ := splitL_used l
  intro n hn
  have : (splitL l).1[n]? ∈ l.map some := by rw [← h3]; exact List.mem_map_of_mem hn
  obtain ⟨s, -, e⟩ := List.mem_map.1 this
  exact (List.getElem?_eq_some_iff.1 e.symm).1
/-- What Put makes. -/
def Wrote (l : List UInt8) (w : World) (e : Ending) (w' : World) : Prop :=
  ∃ (A : Option Addr) (c : Nat), e = .returned (.slice A l.length c) ∧ l.length ≤ c ∧ c ≤ maxLen ∧ w'.ownsRow w.heap.size 5 1 (.slice A l.length c) l.length (u8s l) ∧ Below w.heap.size w w'

set_option maxRecDepth 100000 in
set_option maxHeartbeats 2000000 in
theorem dput_any (A : Option Addr) (n c : Nat) (xs : List UInt8) (B : Option Addr) (m c2 : Nat) (l : List ByteArray) (w : World) (hr : Reads w w.heap.size 1 A n (u8s xs)) (hn : n ≤ c) (hc : c ≤ maxLen)
    (hr2 : Reads w w.heap.size 1 B m (txs l)) (hm : m ≤ 1099511627776) (hsz : ∀ s ∈ l, s.size ≤ maxLen) (htot : (xs ++ putD l).length ≤ 1099511627776) :
    Calls Tryz.prog 94 #[.slice A n c, .slice B m c2] w (Wrote (xs ++ putD l) w) := by
  obtain ⟨i0, hi0, hz0, hz1, hz2⟩ := info_parts u8_info
  have hst := put1_start l xs
  have Hlen2 := Lib.hid (tlen hr2)
  have hsl := splitL_len l
  have hsm := split_small l
  generalize hT : xs ++ putD l = tot at hst htot ⊢
  have Hst := Lib.hid hst
  have Hsm := Lib.hid hsm
  clear hT hst hsm
  go_enter Tryz.func94, Tryz.ntmps94
  go_wp2_with fail
  with_reducible refine (split_any B m c2 l _ hr2 hm hsz).mono ?_
  rintro e w1 ⟨A1, c3, A2, c4, rfl, g1, g2, g3, g4, o1, o2, hb1⟩
  have r1 := own_reads o1
  have r2 := own_reads o2
  have hr1 := hr.on hb1
  have hlx := reads_len hr
  have hnl : l.length = m := Hlen2.out
  rw [hnl] at g3 r2 hsl
  simp only [hnl]
  obtain ⟨hsl1, hsl2⟩ := hsl
  have HNS := Lib.hid hsl2
  generalize (splitL l).2 = ns at r2 Hst Hsm HNS
  have hd0 : (splitL l).1.length < 18446744073709551616 := by omega
  generalize (splitL l).1 = d at r1 Hst hsl1 g1 Hsm hd0 ⊢
  clear o1 o2 hnl hsl2 hr hr2
  have hnt : n ≤ 1099511627776 := by have h := congrArg List.length Hst.out; simp only [List.length_append] at h; omega
  clear hlx
  have hdm : d.length ≤ 1099511627776 := by omega
  go_wp2_with fail
  with_reducible refine (put_any A n c d.length xs _ hr1 hn hc hnt hd0).mono ?_
  rintro e w2 ⟨A3, c5, rfl, hc5, hd5, o3, hb2⟩
  have Hl3 := Lib.hid (reads_len (own_reads o3))
  go_wp2
  go_loopw [7, 24] (fun v i wr => ∃ (k q : Nat) (Aq : Option Addr) (cq : Nat) (cur : List UInt8), k ≤ d.length ∧ q ≤ cq ∧ cq ≤ maxLen ∧ i = .int .i64 (k : Int) ∧ v = .slice Aq q cq ∧ Hid (Put1 d ns tot k cur) ∧
    wr.ownsRow w1.heap.size 5 1 (.slice Aq q cq) q (u8s cur) ∧ Below w1.heap.size w1 wr) (fun _ i _ => d.length - (intOf i).toNat)
  case atStart => exact ⟨0, _, A3, c5, _, Nat.zero_le _, hc5, hd5, rfl, rfl, Hst, o3, hb2⟩
  case round =>
    clear o3 hb2 Hl3 hc5
    obtain ⟨k, q, Aq, cq, cur, hk, hq1, hq2, rfl, rfl, hp, hown, hB⟩ := hrel
    have Hq := Lib.hid (reads_len (own_reads hown))
    by_cases hlt : k < d.length
    · obtain ⟨ad, v, rfl, hbk, hx, hcell⟩ := r1.at_ hlt
      rw [← hB.cell (p := ad.add k) (by rw [block_of_add]; exact hbk)] at hcell
      obtain ⟨s, hs', rfl⟩ := txs_get _ _ _ hx
      obtain ⟨hp2, hle⟩ := put1_step hp.out hs'
      have hql : cur.length = q := Hq.out
      rw [hql] at hle
      have hss : s.size < 18446744073709551616 := by rw [← bts_len]; omega
      have hq0 : q ≤ 1099511627776 := by omega
      have hbl := bts_len s
      have Hp2 := Lib.hid hp2
      have hbs := hB.size
      have Hbl := Lib.hid hbl
      rw [hbl] at hle
      clear hx hs' hp2 hp hql hbl
      have hss2 : s.size ≤ 9223372036854775807 := by omega
      go_wp2_with fail
      with_reducible refine (put_any Aq q cq s.size cur _ (own_reads hown) hq1 hq2 hq0 hss).mono ?_
      rintro e w3 ⟨A6, c6, rfl, hc6, hd6, o6, hb3⟩
      replace o6 := own_mono o6 hbs
      have hB3 := hB.trans (hb3.mono hbs)
      have hbase3 := hB3.size
      have hs63 : q + (leb s.size).length + s.data.toList.length ≤ 70368744177664 := by
        have := Hbl.out
        unfold bts at this
        omega
      go_wp2_with (at_builtin
                   refine wpList_append_str rfl (.tmp 32) (.tmp 33) 22 9 rfl w1.heap.size 5 i0 Tryz.underlying22 Tryz.underlying9 hi0 hz0 hz1 hz2 A6 _ c6 _ rfl o6 s rfl hs63 hbase3 ?_
                   intro A7 c7 w7 o7 hb7 hg7 hc7 hd7)
      have hB7 := hB3.trans hb7
      have Hp3 : Hid (Put1 d ns tot (k + 1) (cur ++ leb s.size ++ s.data.toList)) := by
        have := Hp2.out
        rw [Hbl.out] at this
        exact this
      go_roundw
      case rel => exact ⟨k + 1, _, A7, c7, _, by omega, hc7, hd7, by go_num, rfl, Hp3, o7, hB7⟩
      case measure => simp [intOf]; omega
    · have hkd : k = d.length := by omega
      subst hkd
      have Hp0 := Lib.hid (put1_end hp.out)
      clear hp
      go_wp2
      go_loopw [7, 38] (fun v i wr => ∃ (k q : Nat) (Aq : Option Addr) (cq : Nat) (cur : List UInt8), k ≤ m ∧ q ≤ cq ∧ cq ≤ maxLen ∧ i = .int .i64 (k : Int) ∧ v = .slice Aq q cq ∧ Hid (Put2 ns tot k cur) ∧
        wr.ownsRow w1.heap.size 5 1 (.slice Aq q cq) q (u8s cur) ∧ Below w1.heap.size w1 wr) (fun _ i _ => m - (intOf i).toNat)
      case atStart => exact ⟨0, _, Aq, cq, _, Nat.zero_le _, hq1, hq2, rfl, rfl, Hp0, hown, hB⟩
      case round =>
        clear hown hB Hq hq1
        obtain ⟨k, q, Aq, cq, cur, hk, hq1, hq2, rfl, rfl, hp, hown, hB⟩ := hrel
        have Hq := Lib.hid (reads_len (own_reads hown))
        by_cases hlt : k < m
        · obtain ⟨ad, v, rfl, hbk, hx, hcell⟩ := r2.at_ hlt
          rw [← hB.cell (p := ad.add k) (by rw [block_of_add]; exact hbk)] at hcell
          obtain ⟨y, hs', rfl⟩ := nns_get _ _ _ hx
          obtain ⟨hp2, hle⟩ := put2_step hp.out hs'
          have hql : cur.length = q := Hq.out
          rw [hql] at hle
          have hy := Hsm.out y (List.mem_of_getElem? hs')
          have hy0 : y < 18446744073709551616 := by omega
          have hy1 : y ≤ 9223372036854775807 := by omega
          have hq0 : q ≤ 1099511627776 := by omega
          have Hp2 := Lib.hid hp2
          have hbs := hB.size
          clear hx hs' hp2 hp hql
          go_wp2_with fail
          with_reducible refine (put_any Aq q cq y cur _ (own_reads hown) hq1 hq2 hq0 hy0).mono ?_
          rintro e w3 ⟨A6, c6, rfl, hc6, hd6, o6, hb3⟩
          replace o6 := own_mono o6 hbs
          have hB3 := hB.trans (hb3.mono hbs)
          go_wp2
          go_roundw
          case rel => exact ⟨k + 1, _, A6, c6, _, by omega, hc6, hd6, by go_num, rfl, Hp2, o6, hB3⟩
          case measure => simp [intOf]; omega
        · have hkm : k = ns.length := by have := HNS.out; omega
          have hp0 := hp.out
          rw [hkm] at hp0
          have Hp0 := Lib.hid (put2_end hp0)
          clear hp0 hp hkm
          go_wp2
          go_ret
          have hcur := Hp0.out
          have hql := Hq.out
          subst hcur hql
          exact ⟨Aq, cq, rfl, hq1, hq2, own_mono hown hb1.size, hb1.trans (hB.mono hb1.size)⟩
end Go.Proofs.YtfgpbnfobpfacaaGreatDoor
/- Layer 15: Join of whole numbers, plainly. -/
set_option linter.unusedVariables false
set_option linter.unusedSimpArgs false
namespace Go.Proofs.YtfgpbnfobpfacaaGreatDoor
open Go.RowKit

theorem splitL_mem (l : List ByteArray) (k : Nat) : k ≤ l.length → (∀ s, s ∈ (splitL (l.take k)).1 ↔ s ∈ l.take k) ∧ ((splitL (l.take k)).1.length = k ↔ (l.take k).Nodup) := by
  induction k with
  | zero => intro _; simp [splitL]
  | succ k ih =>
    intro hk
    obtain ⟨h1, h2⟩ := ih (by omega)
    have hx := List.getElem?_eq_getElem (show k < l.length by omega)
    have hle := (splitL_len (l.take k)).1
    rw [List.length_take, Nat.min_eq_left (by omega)] at hle
    rw [splitL_take l k _ hx, List.take_add_one, hx]
    generalize l[k] = s at hx
    simp only [Option.toList_some]
    generalize l.take k = t at h1 h2 hle ⊢
    rcases hp : placeL (splitL t).1 s with _ | j
    · have hs : splitStep (splitL t) s = ((splitL t).1 ++ [s], (splitL t).2 ++ [(splitL t).1.length]) := by unfold splitStep; simp only [hp]
      have hno := (placeL_none _ s).1 hp
      rw [h1] at hno
      rw [hs]
      refine ⟨fun r => by simp [h1], ?_⟩
      rw [List.length_append, List.nodup_append]
      simp only [List.length_cons, List.length_nil]
      constructor
      · intro h
        refine ⟨h2.1 (by omega), by simp, fun a ha b hb => ?_⟩
        rw [List.mem_singleton] at hb
        subst hb
        exact fun e => hno (e ▸ ha)
      · intro h
        have := h2.2 h.1
        omega
    · have hs : splitStep (splitL t) s = ((splitL t).1, (splitL t).2 ++ [j]) := by unfold splitStep; simp only [hp]
      have hin : s ∈ t := by
        rw [← h1]
        exact List.mem_of_getElem? (placeL_some _ _ _ hp)
      rw [hs]
      refine ⟨fun r => ?_, ?_⟩
      · simp only [List.mem_append, List.mem_singleton, h1]
        exact ⟨fun h => .inl h, fun h => h.elim id fun e => e ▸ hin⟩
      · constructor
        · intro h
          simp only at h
          omega
        · intro h
          rw [List.nodup_append] at h
          exact absurd rfl (h.2.2 s hin s (by simp))
theorem splitL_nodup (d : List ByteArray) : (splitL d).1.length = d.length ↔ d.Nodup := by
  have := (splitL_mem d d.length (Nat.le_refl _)).2
  rwa [List.take_length] at this
/-- What Join hands back, of all whole numbers. -/
def joinI (d : List ByteArray) (xs : List Int) : Option (List ByteArray) := if ∀ x ∈ xs, 0 ≤ x then joinN d (xs.map Int.toNat) else none
theorem joinI_nat (d : List ByteArray) (ns : List Nat) : joinI d (ns.map Int.ofNat) = joinN d ns := by
  unfold joinI
  rw [if_pos, List.map_map]
  · congr 1
    conv => rhs; rw [← List.map_id ns]
    exact List.map_congr_left fun n _ => rfl
  · intro x hx
    obtain ⟨n, _, rfl⟩ := List.mem_map.1 hx
    exact Int.natCast_nonneg n
theorem xs_split (xs : List Int) (k : Nat) (x : Int) (hx : xs[k]? = some x) : xs = xs.take k ++ x :: xs.drop (k + 1) := by
  obtain ⟨hlt, rfl⟩ := List.getElem?_eq_some_iff.1 hx
  rw [List.getElem_cons_drop, List.take_append_drop]
theorem joinI_neg (d : List ByteArray) (xs : List Int) (k : Nat) (x : Int) (hx : xs[k]? = some x) (h : x < 0) : joinI d xs = none := by
  unfold joinI
  rw [if_neg]
  intro h2
  have := h2 x (List.mem_of_getElem? hx)
  omega
theorem joinI_stop (d : List ByteArray) (xs : List Int) (ns : List Nat) (k n u : Nat) (hp : xs.take k = ns.map Int.ofNat) (hx : xs[k]? = some (n : Int)) (h : usedL 0 ns = some u) (hn : u < n ∨ d.length ≤ n) : joinI d xs = none := by
  unfold joinI
  split
  · rw [xs_split xs k _ hx, hp, List.map_append, List.map_map, List.map_cons, Int.toNat_natCast]
    have : ns.map (Int.toNat ∘ Int.ofNat) = ns := by
      conv => rhs; rw [← List.map_id ns]
      exact List.map_congr_left fun n _ => rfl
    rw [this]
    exact joinN_stop d ns _ n u h hn
  · rfl
theorem joinI_far (d : List ByteArray) (xs : List Int) (k n : Nat) (hx : xs[k]? = some (n : Int)) (hn : d.length ≤ n) : joinI d xs = none := by
  unfold joinI
  split
  · unfold joinN
    rw [if_neg]
    rintro ⟨h1, -⟩
    have := h1 n (List.mem_map.2 ⟨_, List.mem_of_getElem? hx, by simp⟩)
    omega
  · rfl
theorem take_nat (xs : List Int) (ns : List Nat) (k n : Nat) (hp : xs.take k = ns.map Int.ofNat) (hx : xs[k]? = some (n : Int)) : xs.take (k + 1) = (ns ++ [n]).map Int.ofNat := by
  rw [List.take_add_one, hx, hp, List.map_append]
  rfl
theorem usedL_snoc (ns : List Nat) (n u : Nat) (h : usedL 0 ns = some u) (hn : n ≤ u) : usedL 0 (ns ++ [n]) = some (if n = u then u + 1 else u) := by
  rw [usedL_append _ _ _ _ h, usedL, if_neg (by omega), usedL]
theorem outs_snoc (d : List ByteArray) (ns : List Nat) (n : Nat) (s : ByteArray) (h : d[n]? = some s) : (ns ++ [n]).filterMap (d[·]?) = ns.filterMap (d[·]?) ++ [s] := by
  rw [List.filterMap_append]
  simp [List.filterMap_cons, h]
theorem lt_snoc (d : List ByteArray) (ns : List Nat) (n : Nat) (h : ∀ m ∈ ns, m < d.length) (hn : n < d.length) : ∀ m ∈ ns ++ [n], m < d.length := by
  intro m hm
  rcases List.mem_append.1 hm with hm | hm
  · exact h m hm
  · rw [List.mem_singleton] at hm; omega
/-- A book, so many of whose texts are used. -/
def Joined (r : Option (List ByteArray)) (w : World) (e : Ending) (w' : World) : Prop :=
  ∃ (A : Option Addr) (c : Nat), e = .returned (.tuple #[.slice A (r.getD []).length c, .int .i64 (if r.isSome then 0 else 150)]) ∧ (r.getD []).length ≤ c ∧ c ≤ maxLen ∧
    w'.ownsRow w.heap.size 9 1 (.slice A (r.getD []).length c) (r.getD []).length (txs (r.getD [])) ∧ Below w.heap.size w w'
theorem joined_none (w w' : World) (h : Below w.heap.size w w') : Joined none w (.returned (.tuple #[.slice none 0 0, .int .i64 150])) w' :=
  ⟨none, 0, rfl, Nat.le_refl _, by simp [maxLen], World.ownsRow_nil _ _ _ _, h⟩
theorem own_far {w : World} {base size n g : Nat} {e t : TypeId} {v : Value} {xs : List Value} {cs : Array Value} (h : w.ownsRow base e size v n xs) (hb : Blk w g t cs) (hne : e ≠ t) (i : Nat) (u : Value) : (w.setCell ⟨g, i, none⟩ u).ownsRow base e size v n xs := by
  rcases h.2 with ⟨rfl, h0⟩ | ⟨g2, cap, cur, rfl, h1, h2, h3⟩
  · exact ⟨h.1, .inl ⟨rfl, h0⟩⟩
  · refine ⟨h.1, .inr ⟨g2, cap, cur, rfl, h1, ?_, h3⟩⟩
    have hg : g2 ≠ g := by
      rintro rfl
      unfold Blk at hb
      rw [h2] at hb
      injection hb with hb
      injection hb with _ h4
      exact hne h4
    exact (Below.heap_setCell w ⟨g, i, none⟩ u g2 hg).trans h2
theorem Blk.apart {w w' : World} {base size n g : Nat} {e t : TypeId} {v : Value} {xs : List Value} {cs : Array Value} (hb : Blk w g t cs) (h : w.ownsRow base e size v n xs) (hne : e ≠ t) (hg : w.grownBy w' v.ownBlock) : Blk w' g t cs := by
  refine (hg.block g hb.lt ?_).trans hb
  rcases h.2 with ⟨rfl, h0⟩ | ⟨g2, cap, cur, rfl, h1, h2, h3⟩
  · simp [Value.ownBlock]
  · simp only [Value.ownBlock, ne_eq, Option.some.injEq]
    rintro rfl
    unfold Blk at hb
    rw [h2] at hb
    injection hb with hb
    injection hb with _ h4
    exact hne h4
theorem MapS.blk {P : Program} {k e : TypeId} {w : World} {g n m g2 : Nat} {f : ByteArray → Option Int} (h : MapS P k e w g n m f) {t : TypeId} {cs : Array Value} (hb : Blk w g2 t cs) : g ≠ g2 := by
  rintro rfl
  obtain ⟨D, ⟨es, clock, h1, -⟩, -⟩ := h
  unfold Blk at hb
  rw [h1] at hb
  injection hb with hb
  cases hb
end Go.Proofs.YtfgpbnfobpfacaaGreatDoor
