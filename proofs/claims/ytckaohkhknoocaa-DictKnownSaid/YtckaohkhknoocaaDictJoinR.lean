/- Layer 15, walked: Join of the reference. -/
import Derived.Test.YtckaohkhknoocaaDictJoin
set_option linter.unusedVariables false
set_option linter.unusedSimpArgs false
namespace Go.Proofs.Ytckaohkhknoocaa
open Go.RowKit
def Got (d : List ByteArray) (xs : List Int) (k : Nat) (out : List ByteArray) : Prop :=
  ∃ ns : List Nat, xs.take k = ns.map Int.ofNat ∧ (∀ n ∈ ns, n < d.length) ∧ out = ns.filterMap (d[·]?)
theorem got_step {d : List ByteArray} {xs : List Int} {k n : Nat} {out : List ByteArray} {s : ByteArray} (h : Got d xs k out) (hx : xs[k]? = some (n : Int)) (hs : d[n]? = some s) : Got d xs (k + 1) (out ++ [s]) := by
  obtain ⟨ns, h1, h3, rfl⟩ := h
  exact ⟨ns ++ [n], take_nat xs ns k n h1 hx, lt_snoc d ns n h3 (List.getElem?_eq_some_iff.1 hs).1, (outs_snoc d ns n s hs).symm⟩
theorem got_end {d : List ByteArray} {xs : List Int} {k : Nat} {out : List ByteArray} (h : Got d xs k out) (hk : xs.length ≤ k) : joinI d xs = if (splitL out).1 = d ∧ ((splitL out).2.map Int.ofNat) = xs then some out else none := by
  obtain ⟨ns, h1, h3, rfl⟩ := h
  rw [List.take_of_length_le hk] at h1
  rw [h1, joinI_nat]
  unfold joinN
  have hinj : ∀ a b : List Nat, a.map Int.ofNat = b.map Int.ofNat ↔ a = b := fun a b => ⟨fun h => (List.map_inj_right (fun _ _ h => Int.ofNat.inj h)).1 h, fun h => by rw [h]⟩
  by_cases hc : splitL (ns.filterMap (d[·]?)) = (d, ns)
  · rw [if_pos ⟨h3, hc⟩, if_pos]
    rw [hc]
    exact ⟨rfl, rfl⟩
  · rw [if_neg (fun h => hc h.2), if_neg]
    rintro ⟨h4, h5⟩
    rw [hinj] at h5
    exact hc (Prod.ext h4 h5)
set_option maxRecDepth 100000 in
set_option maxHeartbeats 2000000 in
theorem refjoin_any (A : Option Addr) (m c : Nat) (d : List ByteArray) (B : Option Addr) (n c2 : Nat) (xs : List Int) (w : World) (hr : Reads w w.heap.size 1 A m (txs d)) (hm : m ≤ 1099511627776)
    (hr2 : Reads w w.heap.size 1 B n (ins xs)) (hn : n ≤ 1099511627776) (hb : ∀ x ∈ xs, -9223372036854775808 ≤ x ∧ x ≤ 9223372036854775807) :
    Calls Try.prog 23 #[.slice A m c, .slice B n c2] w (Joined (joinI d xs) w) := by
  obtain ⟨i0, hi0, hz0, hz1, hz2⟩ := info_parts text_info
  have Hlen := Lib.hid (tlen hr)
  have Hlen2 := Lib.hid (ilen hr2)
  have Hb := Lib.hid hb
  clear hb
  go_enter Try.func23, Try.ntmps23
  go_wp2
  go_loopw [6, 7] (fun v i wr => ∃ (j : Nat) (A1 : Option Addr) (c1 : Nat) (out : List ByteArray), j ≤ n ∧ i = .int .i64 (j : Int) ∧ v = .slice A1 j c1 ∧ Hid (Got d xs j out) ∧
    wr.ownsRow w.heap.size 9 1 (.slice A1 j c1) j (txs out) ∧ Below w.heap.size w wr) (fun _ i _ => n - (intOf i).toNat)
  case atStart => exact ⟨0, none, 0, [], Nat.zero_le _, rfl, rfl, Lib.hid ⟨[], rfl, by simp, rfl⟩, World.ownsRow_nil _ _ _ _, Below.refl _ _⟩
  case round =>
    obtain ⟨j, A1, c1, out, hj, rfl, rfl, hg, hown, hB⟩ := hrel
    by_cases hlt2 : j < n
    · obtain ⟨ad, v, rfl, hbk, hx, hcell⟩ := hr2.at_ hlt2
      rw [← hB.cell (p := ad.add j) (by rw [block_of_add]; exact hbk)] at hcell
      obtain ⟨x, hx', rfl⟩ := ins_get _ _ _ hx
      obtain ⟨hx1, hx2⟩ := Hb.out x (List.mem_of_getElem? hx')
      clear hx hbk
      by_cases hx0 : x < 0
      · have Hj := Lib.hid (joinI_neg d xs j x hx' hx0)
        clear hx'
        go_wp2
        go_ret2
        rw [Hj.out]
        exact joined_none _ _ hB
      · obtain ⟨y, rfl⟩ := Int.eq_ofNat_of_zero_le (by omega : 0 ≤ x)
        clear hx0 hx1
        by_cases hbad : m ≤ y
        · have Hj := Lib.hid (joinI_far d xs j y hx' (by rw [Hlen.out]; exact hbad))
          clear hx'
          have db : decide (m ≤ y) = true := by simp; omega
          go_wp2
          go_ret2
          rw [Hj.out]
          exact joined_none _ _ hB
        · obtain ⟨ad2, v, rfl, hbk2, hx2', hcell2⟩ := hr.at_ (k := y) (by omega)
          rw [← hB.cell (p := ad2.add y) (by rw [block_of_add]; exact hbk2)] at hcell2
          obtain ⟨s, hds, rfl⟩ := txs_get _ _ _ hx2'
          have Hg2 := Lib.hid (got_step hg.out hx' hds)
          have db : decide (m ≤ y) = false := by simp; omega
          have hbase := hB.size
          have hs1 : j + 1 ≤ maxLen := by simp only [maxLen]; omega
          have hs2 : (j + 1) * 16 ≤ 70368744177664 := by omega
          clear hx' hds hx2' hg hbk2
          go_wp2_with (at_builtin
                       refine wpList_append_any _ rfl (.tmp 30) (.tmp 38) 22 rfl w.heap.size 9 i0 (.string ⟨#[]⟩) 1 16 Try.underlying22 hi0 hz0 hz1 hz2 rfl (by decide) A1 j c1 _ rfl (hown.alloc _) _ 1 1 [.string s] rfl (reads_new _ _ _) (one_text s) hs1 hs2 (by simp; omega) ?_
                       intro A3 c3 w3 hown3 hb3 hg3 hc3 hm3)
          have hB3 := (hB.alloc hbase (.cells #[.string s] 9)).trans hb3
          rw [show txs out ++ [Value.string s] = txs (out ++ [s]) from by simp [txs]] at hown3
          go_roundw
          case rel => exact ⟨j + 1, A3, c3, _, by omega, by go_num, rfl, Hg2, hown3, hB3⟩
          case measure => simp [intOf]; omega
    · have hjn : j = n := by omega
      have hjoin := got_end hg.out (by rw [Hlen2.out]; omega)
      have Hj := Lib.hid hjoin
      obtain ⟨_, _, hv, h1, h2⟩ := own_shape hown
      injection hv with hA hn' hc'
      subst hA hc' hjn
      have Hdl := Lib.hid (show out.length = j from by have := hown.1; simpa using this)
      clear hjoin hg
      go_wp2_with fail
      with_reducible refine (refsplit_any A1 j c1 out _ (own_reads hown) hn).mono ?_
      rintro e w7 ⟨A5, c5, A6, c6, rfl, g1, g2, g3, g4, o5, o6, hb7⟩
      have hB7 := bon hB hb7
      have hown7 := own_below hown hb7
      have hr7 := (hr.below hB7).more hB7.size
      have hr27 := (hr2.below hB7).more hB7.size
      have r5 := own_reads o5
      have r6 := own_reads o6
      rw [nns_ins] at r6
      have hsl := (splitL_len out).1
      rw [Hdl.out] at hsl
      have hl5 : (splitL out).1.length ≤ maxLen := Nat.le_trans g1 g2
      have hl6 : out.length ≤ maxLen := Nat.le_trans g3 g4
      generalize (splitL out).2.map Int.ofNat = zs at r6 Hj
      generalize (splitL out).1 = d5 at r5 Hj hl5 ⊢
      clear o5 o6 hown hB hsl g1 g2 g3 g4
      by_cases hd5 : d5 = d
      · have Hd5 := Lib.hid hd5
        clear hd5
        go_wp2_with fail
        with_reducible refine (eqTexts_yes A5 A d5.length c5 m c d5 d _ r5 hr7 hl5 (by simp only [maxLen]; omega) Hd5.out).mono ?_
        rintro e w8 ⟨rfl, hb8⟩
        have hB8 := bon hB7 hb8
        have hown8 := own_below hown7 hb8
        have hr28 := (hr27.below hb8).more hb8.size
        have r68 := (r6.below hb8).more hb8.size
        clear r5 r6 hr7 hr27 hown7 hB7 hb8 hb7
        by_cases hz : zs = xs
        · have hfin := Hj.out
          rw [if_pos ⟨Hd5.out, hz⟩] at hfin
          have Hfin := Lib.hid hfin
          have Hz := Lib.hid hz
          clear hfin hz Hj
          go_wp2_with fail
          with_reducible refine (eqInts_yes A6 B out.length c6 j c2 zs xs _ r68 hr28 hl6 (by simp only [maxLen]; omega) Hz.out).mono ?_
          rintro e w9 ⟨rfl, hb9⟩
          have hB9 := bon hB8 hb9
          have hown9 := own_below hown8 hb9
          go_wp2
          go_ret2
          rw [Hfin.out]
          unfold Joined
          simp only [Option.getD_some, Option.isSome_some, if_true, Hdl.out]
          exact ⟨A1, c1, rfl, h1, h2, hown9, hB9⟩
        · have hfin := Hj.out
          rw [if_neg (fun h => hz h.2)] at hfin
          have Hfin := Lib.hid hfin
          clear hfin Hj
          go_wp2_with fail
          with_reducible refine (eqInts_no A6 B out.length c6 j c2 zs xs _ r68 hr28 hl6 (by simp only [maxLen]; omega) hz).mono ?_
          rintro e w9 ⟨rfl, hb9⟩
          have hB9 := bon hB8 hb9
          go_wp2
          go_ret2
          rw [Hfin.out]
          exact joined_none _ _ hB9
      · have hfin := Hj.out
        rw [if_neg (fun h => hd5 h.1)] at hfin
        have Hfin := Lib.hid hfin
        clear hfin Hj
        go_wp2_with fail
        with_reducible refine (eqTexts_no A5 A d5.length c5 m c d5 d _ r5 hr7 hl5 (by simp only [maxLen]; omega) hd5).mono ?_
        rintro e w8 ⟨rfl, hb8⟩
        have hB8 := bon hB7 hb8
        go_wp2
        go_ret2
        rw [Hfin.out]
        exact joined_none _ _ hB8
end Go.Proofs.Ytckaohkhknoocaa
