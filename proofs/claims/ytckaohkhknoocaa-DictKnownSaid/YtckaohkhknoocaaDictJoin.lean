/- Layer 15, walked: Join of the program. -/
import Derived.Test.YtckaohkhknoocaaDictBook
set_option linter.unusedVariables false
set_option linter.unusedSimpArgs false
namespace Go.Proofs.Ytckaohkhknoocaa
open Go.RowKit
/-- How far the numbers were taken. -/
def Gone (d : List ByteArray) (xs : List Int) (k u : Nat) (out : List ByteArray) : Prop :=
  ∃ ns : List Nat, xs.take k = ns.map Int.ofNat ∧ usedL 0 ns = some u ∧ (∀ n ∈ ns, n < d.length) ∧ out = ns.filterMap (d[·]?)
theorem gone_start (d : List ByteArray) (xs : List Int) : Gone d xs 0 0 [] := ⟨[], rfl, rfl, by simp, rfl⟩
theorem gone_step {d : List ByteArray} {xs : List Int} {k u n : Nat} {out : List ByteArray} {s : ByteArray} (h : Gone d xs k u out) (hx : xs[k]? = some (n : Int)) (hn : n ≤ u) (hs : d[n]? = some s) : Gone d xs (k + 1) (if n = u then u + 1 else u) (out ++ [s]) := by
  obtain ⟨ns, h1, h2, h3, rfl⟩ := h
  exact ⟨ns ++ [n], take_nat xs ns k n h1 hx, usedL_snoc ns n u h2 hn, lt_snoc d ns n h3 (List.getElem?_eq_some_iff.1 hs).1, (outs_snoc d ns n s hs).symm⟩
theorem gone_stop {d : List ByteArray} {xs : List Int} {k u n : Nat} {out : List ByteArray} (h : Gone d xs k u out) (hx : xs[k]? = some (n : Int)) (hn : u < n ∨ d.length ≤ n) : joinI d xs = none := by
  obtain ⟨ns, h1, h2, h3, rfl⟩ := h
  exact joinI_stop d xs ns k n u h1 hx h2 hn
theorem gone_end {d : List ByteArray} {xs : List Int} {k u : Nat} {out : List ByteArray} (h : Gone d xs k u out) (hk : xs.length ≤ k) : joinI d xs = if u = d.length ∧ d.Nodup then some out else none := by
  obtain ⟨ns, h1, h2, h3, rfl⟩ := h
  rw [List.take_of_length_le hk] at h1
  rw [h1, joinI_nat]
  exact joinN_end d ns u h2 h3
theorem wrap_neg (x : Int) (h1 : -9223372036854775808 ≤ x) (h2 : x < 0) : 9223372036854775808 ≤ IntKind.u64.wrap x := by
  simp only [IntKind.wrap, IntKind.signed, IntKind.bits]
  simp
  omega
/-- Which texts a map has. -/
def Has (f : ByteArray → Option Int) (l : List ByteArray) : Prop := ∀ s, (f s).isSome = true ↔ s ∈ l
set_option maxRecDepth 100000 in
set_option maxHeartbeats 2000000 in
theorem join_any (A : Option Addr) (m c : Nat) (d : List ByteArray) (B : Option Addr) (n c2 : Nat) (xs : List Int) (w : World) (hr : Reads w w.heap.size 1 A m (txs d)) (hm : m ≤ 1099511627776) (hsz : ∀ s ∈ d, s.size ≤ maxLen)
    (hr2 : Reads w w.heap.size 1 B n (ins xs)) (hn : n ≤ 1099511627776) (hb : ∀ x ∈ xs, -9223372036854775808 ≤ x ∧ x ≤ 9223372036854775807) :
    Calls Try.prog 22 #[.slice A m c, .slice B n c2] w (Joined (joinI d xs) w) := by
  obtain ⟨i0, hi0, hz0, hz1, hz2⟩ := info_parts text_info
  have Hlen := Lib.hid (tlen hr)
  have Hlen2 := Lib.hid (ilen hr2)
  have Hsz := Lib.hid hsz
  have Hb := Lib.hid hb
  clear hsz hb
  have hmm := @run_makeMap Try.prog
  go_enter Try.func22, Try.ntmps22
  go_wp2
  clear hmm
  go_loopw [17] (fun i wr => ∃ (k q : Nat) (f : ByteArray → Option Int), k ≤ m ∧ i = .int .i64 (k : Int) ∧ Hid (q = (splitL (d.take k)).1.length) ∧ Hid (Has f (d.take k)) ∧ Hid (MapT wr w.heap.size k q f) ∧ Below w.heap.size w wr) (fun i _ => m - (intOf i).toNat)
  case atStart => exact ⟨0, 0, fun _ => none, Nat.zero_le _, rfl, Lib.hid rfl, Lib.hid (fun s => by simp), Lib.hid (MapS.made w), (Below.refl _ _).alloc (Nat.le_refl _) _⟩
  case round =>
    obtain ⟨k, q, f, hk, rfl, hq, hf, hmap, hB⟩ := hrel
    by_cases hlt : k < m
    · obtain ⟨ad, v, rfl, hbk, hx, hcell⟩ := hr.at_ hlt
      rw [← hB.cell (p := ad.add k) (by rw [block_of_add]; exact hbk)] at hcell
      obtain ⟨s, hs', rfl⟩ := txs_get _ _ _ hx
      have hss := Hsz.out s (List.mem_of_getElem? hs')
      have hbase := hB.size
      have hq2 : (if (f s).isSome = true then q else q + 1) = (splitL (d.take (k + 1))).1.length := by
        have hmem := (splitL_mem d k (by rw [Hlen.out]; exact hk)).1 s
        rw [splitL_take d k s hs', hq.out]
        unfold splitStep
        rcases hp : placeL (splitL (d.take k)).1 s with _ | j
        · have h1 := (placeL_none _ _).1 hp
          rw [if_neg (by rw [hf.out s, ← hmem]; exact h1)]
          simp
        · rw [if_pos (by rw [hf.out s, ← hmem]; exact List.mem_of_getElem? (placeL_some _ _ _ hp))]
      have hf2 : Has (fun r => if r = s then some (k : Int) else f r) (d.take (k + 1)) := by
        intro r
        rw [List.take_add_one, hs', List.mem_append]
        simp only [Option.toList_some, List.mem_singleton]
        by_cases hrs : r = s
        · rw [if_pos hrs]
          exact ⟨fun _ => .inr hrs, fun _ => rfl⟩
        · rw [if_neg hrs, hf.out r]
          exact ⟨fun h => .inl h, fun h => h.elim id fun e => absurd e hrs⟩
      have Hq2 := Lib.hid hq2
      have Hf2 := Lib.hid hf2
      clear hx hs' hbk hq2 hf2 hq hf
      go_wp2_with (at_mapUpdate
                   refine wpList_mapS_store rfl _ _ _ _ rfl hmap.out Try.underlying3 Try.underlying9 Try.underlying45 (by simp only [maxLen]; omega) s hss (k : Int) (by simp [Lit.wf, IntKind.min, IntKind.max, IntKind.signed, IntKind.bits]; omega) rfl rfl rfl ?_
                   intro w5 hmap5 hg5
                   replace hmap5 := Lib.hid hmap5
                   have hB5 := hB.grown hg5 hbase (by intro q hq; cases hq; exact Nat.le_refl _)
                   clear hmap hg5)
      go_roundw
      case rel => exact ⟨k + 1, _, _, by omega, by go_num, Hq2, Hf2, hmap5, hB5⟩
      case measure => simp [intOf]; omega
    · have hkm : k = m := by omega
      subst hkm
      have hqn := hq.out
      rw [List.take_of_length_le (by rw [Hlen.out]; exact Nat.le_refl _)] at hqn
      have Hqn := Lib.hid hqn
      have hqm : q ≤ k := by have := (splitL_len d).1; rw [← hqn, Hlen.out] at this; exact this
      clear hqn hq hf
      have hbase := hB.size
      go_wp2
      have hblk : Blk (wr.alloc (.cells #[.slice A k c, .int .i64 0] 54)) wr.heap.size 54 #[.slice A k c, .int .i64 0] := Blk.new _ _ _
      replace hmap := Lib.hid (hmap.out.al (.cells #[.slice A k c, .int .i64 0] 54))
      replace hB := hB.alloc hbase (.cells #[.slice A k c, .int .i64 0] 54)
      have hwg := hbase
      generalize hgb : wr.heap.size = gb at *
      generalize wr.alloc (.cells #[.slice A k c, .int .i64 0] 54) = wb at *
      clear hgb
      go_loopw [4, 31] (fun v i wr => ∃ (j u no : Nat) (A1 : Option Addr) (c1 : Nat) (out : List ByteArray), j ≤ n ∧ no ≤ j ∧ u ≤ k ∧ i = .int .i64 (j : Int) ∧ v = .slice A1 no c1 ∧ Hid (Gone d xs j u out) ∧
        wr.ownsRow w.heap.size 9 1 (.slice A1 no c1) no (txs out) ∧ Hid (Book wr gb A k c u) ∧ Hid (MapT wr w.heap.size k q f) ∧ Below w.heap.size w wr) (fun _ i _ => n - (intOf i).toNat)
      case atStart => exact ⟨0, 0, 0, none, 0, [], Nat.zero_le _, Nat.le_refl _, Nat.zero_le _, rfl, rfl, Lib.hid (gone_start d xs), World.ownsRow_nil _ _ _ _, Lib.hid hblk, hmap, hB⟩
      case round =>
        clear hblk hmap hB
        obtain ⟨j, u, no, A1, c1, out, hj, hno, hu, rfl, rfl, hg, hown, hblk, hmap, hB⟩ := hrel
        by_cases hlt2 : j < n
        · obtain ⟨ad, v, rfl, hbk, hx, hcell⟩ := hr2.at_ hlt2
          rw [← hB.cell (p := ad.add j) (by rw [block_of_add]; exact hbk)] at hcell
          obtain ⟨x, hx', rfl⟩ := ins_get _ _ _ hx
          obtain ⟨hx1, hx2⟩ := Hb.out x (List.mem_of_getElem? hx')
          clear hx hbk
          have hmk : k ≤ maxLen := by simp only [maxLen]; omega
          have hrd := (hr.below hB).more hB.size
          by_cases hx0 : x < 0
          · have Hj := Lib.hid (joinI_neg d xs j x hx' hx0)
            clear hx'
            have hy := wrap_neg x hx1 hx0
            go_wp2_with fail
            with_reducible refine (btext_no gb A k c u (IntKind.u64.wrap x) _ hblk.out hmk hu (.inl (by omega))).mono ?_
            rintro e w' ⟨rfl, rfl⟩
            go_wp2
            go_ret2
            rw [Hj.out]
            exact joined_none _ _ hB
          · obtain ⟨y, rfl⟩ := Int.eq_ofNat_of_zero_le (by omega : 0 ≤ x)
            clear hx0 hx1
            by_cases hbad : u < y ∨ k ≤ y
            · have Hj := Lib.hid (gone_stop hg.out hx' (by rw [Hlen.out]; exact hbad))
              clear hx'
              go_wp2_with fail
              with_reducible refine (btext_no gb A k c u (y : Int) _ hblk.out hmk hu (by omega)).mono ?_
              rintro e w' ⟨rfl, rfl⟩
              go_wp2
              go_ret2
              rw [Hj.out]
              exact joined_none _ _ hB
            · have hy1 : y ≤ u := by omega
              have hy2 : y < k := by omega
              clear hbad
              have hds := List.getElem?_eq_getElem (show y < d.length by rw [Hlen.out]; exact hy2)
              generalize d[y]'(by rw [Hlen.out]; exact hy2) = s at hds
              have Hg2 := Lib.hid (gone_step hg.out hx' hy1 hds)
              have Hds := Lib.hid hds
              clear hx' hds hg
              have hgb : ∀ ad, A = some ad → ad.block ≠ gb := by
                rintro ad rfl
                obtain ⟨ad', e, hlt', -⟩ := hr.2 (by omega)
                obtain rfl := Option.some.inj e
                omega
              go_wp2_with fail
              with_reducible refine (btext_yes gb A k c u y d s _ hblk.out hrd hmk hu hy1 hy2 Hds.out hgb).mono ?_
              rintro e w6 ⟨rfl, hw6⟩
              clear hgb
              have hall : Below w.heap.size w w6 ∧ Book w6 gb A k c (if y = u then u + 1 else u) ∧ w6.ownsRow w.heap.size 9 1 (.slice A1 no c1) no (txs out) ∧ MapT w6 w.heap.size k q f := by
                subst hw6
                by_cases e : y = u
                · rw [if_pos e, if_pos e]
                  exact ⟨hB.setCell hwg _, hblk.out.set_ 1 _, own_far hown hblk.out (by decide) 1 _, hmap.out.set (hmap.out.blk hblk.out) _⟩
                · rw [if_neg e, if_neg e]
                  exact ⟨hB, hblk.out, hown, hmap.out⟩
              obtain ⟨hB6, hblk6, hown6, hmap6⟩ := hall
              have hu6 : (if y = u then u + 1 else u) ≤ k := by split <;> omega
              clear hw6 hrd hown hblk hmap hB
              generalize (if y = u then u + 1 else u) = u6 at hblk6 hu6 Hg2
              have hblk6 := Lib.hid hblk6
              have hmap6 := Lib.hid hmap6
              have hbase := hB6.size
              have hs1 : no + 1 ≤ maxLen := by simp only [maxLen]; omega
              have hs2 : (no + 1) * 16 ≤ 70368744177664 := by omega
              go_wp2_with (at_builtin
                           refine wpList_append_any _ rfl (.tmp 45) (.tmp 47) 22 rfl w.heap.size 9 i0 (.string ⟨#[]⟩) 1 16 Try.underlying22 hi0 hz0 hz1 hz2 rfl (by decide) A1 no c1 _ rfl (hown6.alloc _) _ 1 1 [.string s] rfl (reads_new _ _ _) (one_text s) hs1 hs2 (by simp; omega) ?_
                           intro A3 c3 w3 hown3 hb3 hg3 hc3 hm3)
              have hblk3 := (hblk6.out.alloc (.cells #[.string s] 9)).apart (hown6.alloc _) (by decide) hg3
              have hmap3 := (hmap6.out.al (.cells #[.string s] 9)).grown hg3 ((hmap6.out.al (.cells #[.string s] 9)).apart (hown6.alloc _))
              have hB3 := (hB6.alloc hbase (.cells #[.string s] 9)).trans hb3
              rw [show txs out ++ [Value.string s] = txs (out ++ [s]) from by simp [txs]] at hown3
              go_roundw
              case rel => exact ⟨j + 1, u6, no + 1, A3, c3, _, by omega, by omega, hu6, by go_num, rfl, Hg2, hown3, Lib.hid hblk3, Lib.hid hmap3, hB3⟩
              case measure => simp [intOf]; omega
        · have hjn : j = n := by omega
          have hjoin := gone_end hg.out (by rw [Hlen2.out]; omega)
          rw [Hlen.out] at hjoin
          have Hj := Lib.hid hjoin
          have hndq : d.Nodup ↔ q = k := by rw [Hqn.out, ← Hlen.out]; exact (splitL_nodup d).symm
          have Hnd := Lib.hid hndq
          have hmk : k ≤ maxLen := by simp only [maxLen]; omega
          obtain ⟨_, _, hv, h1, h2⟩ := own_shape hown
          injection hv with hA hn' hc'
          subst hA hc' hjn
          have Hdl := Lib.hid (show out.length = no from by have := hown.1; simpa using this)
          clear hjoin hg hndq
          go_wp2_with fail
          with_reducible refine (bend_any gb A k c u _ hblk.out hmk hu).mono ?_
          rintro e w7 ⟨rfl, hb7⟩
          have hB7 := bon hB hb7
          have hown7 := own_below hown hb7
          have hlen7 := (hmap.out.on hb7).len_ Try.underlying45 3
          by_cases huk : u < k
          · rw [if_pos huk]
            go_wp2
            go_ret2
            rw [Hj.out, if_neg (by omega)]
            exact joined_none _ _ hB7
          · rw [if_neg huk]
            by_cases hqk : q < k
            · have db : decide (q < k) = true := by simp; omega
              go_wp2
              go_ret2
              rw [Hj.out, if_neg (by rw [Hnd.out]; omega)]
              exact joined_none _ _ hB7
            · have db : decide (q < k) = false := by simp; omega
              go_wp2
              go_ret2
              rw [Hj.out, if_pos (by rw [Hnd.out]; omega)]
              unfold Joined
              simp only [Option.getD_some, Option.isSome_some, if_true, Hdl.out]
              exact ⟨A1, c1, rfl, h1, h2, hown7, hB7⟩
end Go.Proofs.Ytckaohkhknoocaa
