/- Layer 15, walked: Put of the program and of the reference. -/
import Derived.Test.YtckaohkhknoocaaDictSplit2
import Derived.Test.YtckaohkhknoocaaLebRef
import Derived.Test.YtckaohkhknoocaaStr
import Derived.Test.YtckaohkhknoocaaHeld
set_option linter.unusedVariables false
set_option linter.unusedSimpArgs false
namespace Go.Proofs.Ytckaohkhknoocaa
open Go.RowKit
theorem u64_wrap (n : Nat) (h : n < 18446744073709551616) : IntKind.u64.wrap (n : Int) = (n : Int) := by
  simp only [IntKind.wrap, IntKind.signed, IntKind.bits]
  simp
  omega
theorem bts_len (s : ByteArray) : (bts s).length = s.size := by unfold bts; rw [Array.length_toList]; rfl
/-- How far the texts were put. -/
def Put1 (d : List ByteArray) (ns : List Nat) (tot : List UInt8) (k : Nat) (cur : List UInt8) : Prop := cur ++ ((d.drop k).flatMap putText ++ ns.flatMap leb) = tot
def Put2 (ns : List Nat) (tot : List UInt8) (k : Nat) (cur : List UInt8) : Prop := cur ++ (ns.drop k).flatMap leb = tot
theorem put1_step {d : List ByteArray} {ns : List Nat} {tot : List UInt8} {k : Nat} {cur : List UInt8} {s : ByteArray} (h : Put1 d ns tot k cur) (hs : d[k]? = some s) : Put1 d ns tot (k + 1) (cur ++ leb (bts s).length ++ bts s) ∧ cur.length + (leb (bts s).length).length + (bts s).length ≤ tot.length := by
  unfold Put1 at *
  obtain ⟨hlt, rfl⟩ := List.getElem?_eq_some_iff.1 hs
  rw [List.drop_eq_getElem_cons hlt, List.flatMap_cons] at h
  rw [← h]
  unfold putText
  refine ⟨by simp only [List.append_assoc], ?_⟩
  simp only [List.length_append]
  omega
theorem put1_end {d : List ByteArray} {ns : List Nat} {tot : List UInt8} {cur : List UInt8} (h : Put1 d ns tot d.length cur) : Put2 ns tot 0 cur := by
  unfold Put1 at h
  rw [List.drop_length] at h
  exact h
theorem put2_step {ns : List Nat} {tot : List UInt8} {k n : Nat} {cur : List UInt8} (h : Put2 ns tot k cur) (hs : ns[k]? = some n) : Put2 ns tot (k + 1) (cur ++ leb n) ∧ cur.length + (leb n).length ≤ tot.length := by
  unfold Put2 at *
  obtain ⟨hlt, rfl⟩ := List.getElem?_eq_some_iff.1 hs
  rw [List.drop_eq_getElem_cons hlt, List.flatMap_cons] at h
  rw [← h]
  refine ⟨by simp only [List.append_assoc], ?_⟩
  simp only [List.length_append]
  omega
theorem put2_end {ns : List Nat} {tot : List UInt8} {cur : List UInt8} (h : Put2 ns tot ns.length cur) : cur = tot := by
  unfold Put2 at h
  rw [List.drop_length] at h
  simpa using h
theorem put1_start (l : List ByteArray) (xs : List UInt8) : Put1 (splitL l).1 (splitL l).2 (xs ++ putD l) 0 (xs ++ leb (splitL l).1.length) := by
  unfold Put1 putD
  simp only [List.drop_zero, List.append_assoc]
theorem nns_get (xs : List Nat) (k : Nat) (v : Value) (h : (nns xs)[k]? = some v) : ∃ c : Nat, xs[k]? = some c ∧ v = .int .i64 (c : Int) := by
  simp only [nns, List.getElem?_map, Option.map_eq_some_iff] at h
  obtain ⟨c, h1, h2⟩ := h
  exact ⟨c, h1, h2.symm⟩
theorem split_small (l : List ByteArray) : ∀ n ∈ (splitL l).2, n < (splitL l).1.length := by
  obtain ⟨-, -, h3⟩ := splitL_used l
  intro n hn
  have : (splitL l).1[n]? ∈ l.map some := by rw [← h3]; exact List.mem_map_of_mem hn
  obtain ⟨s, -, e⟩ := List.mem_map.1 this
  exact (List.getElem?_eq_some_iff.1 e.symm).1
/-- What Put makes. -/
def Wrote (l : List UInt8) (w : World) (e : Ending) (w' : World) : Prop :=
  ∃ (A : Option Addr) (c : Nat), e = .returned (.slice A l.length c) ∧ l.length ≤ c ∧ c ≤ maxLen ∧ w'.ownsRow w.heap.size 5 1 (.slice A l.length c) l.length (u8s l) ∧ Below w.heap.size w w'

set_option maxRecDepth 100000 in
set_option maxHeartbeats 2000000 in
theorem dput_any (A : Option Addr) (n c : Nat) (xs : List UInt8) (B : Option Addr) (m c2 : Nat) (l : List ByteArray) (w : World) (hr : Reads w w.heap.size 1 A n (u8s xs)) (hn : n ≤ c) (hc : c ≤ maxLen)
    (hr2 : Reads w w.heap.size 1 B m (txs l)) (hm : m ≤ 1099511627776) (hsz : ∀ s ∈ l, s.size ≤ maxLen) (htot : (xs ++ putD l).length ≤ 1099511627776) :
    Calls Try.prog 18 #[.slice A n c, .slice B m c2] w (Wrote (xs ++ putD l) w) := by
  obtain ⟨i0, hi0, hz0, hz1, hz2⟩ := info_parts u8_info
  have hst := put1_start l xs
  have Hlen2 := Lib.hid (tlen hr2)
  have hsl := splitL_len l
  have hsm := split_small l
  generalize hT : xs ++ putD l = tot at hst htot ⊢
  have Hst := Lib.hid hst
  have Hsm := Lib.hid hsm
  clear hT hst hsm
  go_enter Try.func18, Try.ntmps18
  go_wp2_with fail
  with_reducible refine (split_any B m c2 l _ hr2 hm hsz).mono ?_
  rintro e w1 ⟨A1, c3, A2, c4, rfl, g1, g2, g3, g4, o1, o2, hb1⟩
  have r1 := own_reads o1
  have r2 := own_reads o2
  have hr1 := hr.on hb1
  have hlx := reads_len hr
  have hnl : l.length = m := Hlen2.out
  rw [hnl] at g3 r2 hsl
  simp only [hnl]
  obtain ⟨hsl1, hsl2⟩ := hsl
  have HNS := Lib.hid hsl2
  generalize (splitL l).2 = ns at r2 Hst Hsm HNS
  have hd0 : (splitL l).1.length < 18446744073709551616 := by omega
  generalize (splitL l).1 = d at r1 Hst hsl1 g1 Hsm hd0 ⊢
  clear o1 o2 hnl hsl2 hr hr2
  have hnt : n ≤ 1099511627776 := by have h := congrArg List.length Hst.out; simp only [List.length_append] at h; omega
  clear hlx
  have hdm : d.length ≤ 1099511627776 := by omega
  go_wp2_with fail
  with_reducible refine (put_any A n c d.length xs _ hr1 hn hc hnt hd0).mono ?_
  rintro e w2 ⟨A3, c5, rfl, hc5, hd5, o3, hb2⟩
  have Hl3 := Lib.hid (reads_len (own_reads o3))
  go_wp2
  go_loopw [7, 24] (fun v i wr => ∃ (k q : Nat) (Aq : Option Addr) (cq : Nat) (cur : List UInt8), k ≤ d.length ∧ q ≤ cq ∧ cq ≤ maxLen ∧ i = .int .i64 (k : Int) ∧ v = .slice Aq q cq ∧ Hid (Put1 d ns tot k cur) ∧
    wr.ownsRow w1.heap.size 5 1 (.slice Aq q cq) q (u8s cur) ∧ Below w1.heap.size w1 wr) (fun _ i _ => d.length - (intOf i).toNat)
  case atStart => exact ⟨0, _, A3, c5, _, Nat.zero_le _, hc5, hd5, rfl, rfl, Hst, o3, hb2⟩
  case round =>
    clear o3 hb2 Hl3 hc5
    obtain ⟨k, q, Aq, cq, cur, hk, hq1, hq2, rfl, rfl, hp, hown, hB⟩ := hrel
    have Hq := Lib.hid (reads_len (own_reads hown))
    by_cases hlt : k < d.length
    · obtain ⟨ad, v, rfl, hbk, hx, hcell⟩ := r1.at_ hlt
      rw [← hB.cell (p := ad.add k) (by rw [block_of_add]; exact hbk)] at hcell
      obtain ⟨s, hs', rfl⟩ := txs_get _ _ _ hx
      obtain ⟨hp2, hle⟩ := put1_step hp.out hs'
      have hql : cur.length = q := Hq.out
      rw [hql] at hle
      have hss : s.size < 18446744073709551616 := by rw [← bts_len]; omega
      have hq0 : q ≤ 1099511627776 := by omega
      have hbl := bts_len s
      have Hp2 := Lib.hid hp2
      have hbs := hB.size
      have Hbl := Lib.hid hbl
      rw [hbl] at hle
      clear hx hs' hp2 hp hql hbl
      have hss2 : s.size ≤ 9223372036854775807 := by omega
      go_wp2_with fail
      with_reducible refine (put_any Aq q cq s.size cur _ (own_reads hown) hq1 hq2 hq0 hss).mono ?_
      rintro e w3 ⟨A6, c6, rfl, hc6, hd6, o6, hb3⟩
      replace o6 := own_mono o6 hbs
      have hB3 := hB.trans (hb3.mono hbs)
      have hbase3 := hB3.size
      have hs63 : q + (leb s.size).length + s.data.toList.length ≤ 70368744177664 := by
        have := Hbl.out
        unfold bts at this
        omega
      go_wp2_with (at_builtin
                   refine wpList_append_str rfl (.tmp 32) (.tmp 33) 23 9 rfl w1.heap.size 5 i0 Try.underlying23 Try.underlying9 hi0 hz0 hz1 hz2 A6 _ c6 _ rfl o6 s rfl hs63 hbase3 ?_
                   intro A7 c7 w7 o7 hb7 hg7 hc7 hd7)
      have hB7 := hB3.trans hb7
      have Hp3 : Hid (Put1 d ns tot (k + 1) (cur ++ leb s.size ++ s.data.toList)) := by
        have := Hp2.out
        rw [Hbl.out] at this
        exact this
      go_roundw
      case rel => exact ⟨k + 1, _, A7, c7, _, by omega, hc7, hd7, by go_num, rfl, Hp3, o7, hB7⟩
      case measure => simp [intOf]; omega
    · have hkd : k = d.length := by omega
      subst hkd
      have Hp0 := Lib.hid (put1_end hp.out)
      clear hp
      go_wp2
      go_loopw [7, 38] (fun v i wr => ∃ (k q : Nat) (Aq : Option Addr) (cq : Nat) (cur : List UInt8), k ≤ m ∧ q ≤ cq ∧ cq ≤ maxLen ∧ i = .int .i64 (k : Int) ∧ v = .slice Aq q cq ∧ Hid (Put2 ns tot k cur) ∧
        wr.ownsRow w1.heap.size 5 1 (.slice Aq q cq) q (u8s cur) ∧ Below w1.heap.size w1 wr) (fun _ i _ => m - (intOf i).toNat)
      case atStart => exact ⟨0, _, Aq, cq, _, Nat.zero_le _, hq1, hq2, rfl, rfl, Hp0, hown, hB⟩
      case round =>
        clear hown hB Hq hq1
        obtain ⟨k, q, Aq, cq, cur, hk, hq1, hq2, rfl, rfl, hp, hown, hB⟩ := hrel
        have Hq := Lib.hid (reads_len (own_reads hown))
        by_cases hlt : k < m
        · obtain ⟨ad, v, rfl, hbk, hx, hcell⟩ := r2.at_ hlt
          rw [← hB.cell (p := ad.add k) (by rw [block_of_add]; exact hbk)] at hcell
          obtain ⟨y, hs', rfl⟩ := nns_get _ _ _ hx
          obtain ⟨hp2, hle⟩ := put2_step hp.out hs'
          have hql : cur.length = q := Hq.out
          rw [hql] at hle
          have hy := Hsm.out y (List.mem_of_getElem? hs')
          have hy0 : y < 18446744073709551616 := by omega
          have hy1 : y ≤ 9223372036854775807 := by omega
          have hq0 : q ≤ 1099511627776 := by omega
          have Hp2 := Lib.hid hp2
          have hbs := hB.size
          clear hx hs' hp2 hp hql
          go_wp2_with fail
          with_reducible refine (put_any Aq q cq y cur _ (own_reads hown) hq1 hq2 hq0 hy0).mono ?_
          rintro e w3 ⟨A6, c6, rfl, hc6, hd6, o6, hb3⟩
          replace o6 := own_mono o6 hbs
          have hB3 := hB.trans (hb3.mono hbs)
          go_wp2
          go_roundw
          case rel => exact ⟨k + 1, _, A6, c6, _, by omega, hc6, hd6, by go_num, rfl, Hp2, o6, hB3⟩
          case measure => simp [intOf]; omega
        · have hkm : k = ns.length := by have := HNS.out; omega
          have hp0 := hp.out
          rw [hkm] at hp0
          have Hp0 := Lib.hid (put2_end hp0)
          clear hp0 hp hkm
          go_wp2
          go_ret
          have hcur := Hp0.out
          have hql := Hq.out
          subst hcur hql
          exact ⟨Aq, cq, rfl, hq1, hq2, own_mono hown hb1.size, hb1.trans (hB.mono hb1.size)⟩
end Go.Proofs.Ytckaohkhknoocaa
