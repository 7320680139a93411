/- Layer 15, walked: Split of the program. -/
import Derived.Test.YtckaohkhknoocaaDictSplit
set_option linter.unusedVariables false
set_option linter.unusedSimpArgs false
namespace Go.Proofs.Ytckaohkhknoocaa
open Go.RowKit
def atF (d : List ByteArray) (s : ByteArray) : Option Int := (placeL d s).map fun (k : Nat) => (k : Int)
theorem atF_put (d : List ByteArray) (s : ByteArray) (h : placeL d s = none) (r : ByteArray) : atF (d ++ [s]) r = if r = s then some (d.length : Int) else atF d r := by
  have key : ∀ (d : List ByteArray), placeL d s = none → placeL (d ++ [s]) r = if r = s then some d.length else placeL d r := by
    intro d
    induction d with
    | nil =>
      intro _
      by_cases hr : r = s
      · subst hr; simp [placeL]
      · have hr' : ¬ s = r := fun e => hr e.symm
        simp [placeL, hr, hr']
    | cons x d ih =>
      intro h
      rw [placeL] at h
      split at h
      · cases h
      · rename_i hne
        rw [Option.map_eq_none_iff] at h
        have := ih h
        rw [List.cons_append, placeL, this]
        by_cases hr : r = s
        · subst hr
          rw [if_neg hne, if_pos rfl, if_pos rfl]
          simp
        · rw [if_neg hr, if_neg hr, placeL]
  unfold atF
  rw [key d h]
  by_cases hr : r = s
  · rw [if_pos hr, if_pos hr]; rfl
  · rw [if_neg hr, if_neg hr]
theorem zero_int (w : World) : (zeroValue 3).run Try.prog w = .ok (.int .i64 0) w := by kernel_rfl
abbrev MapT (w : World) (g n m : Nat) (f : ByteArray → Option Int) : Prop := MapS Try.prog 9 3 w g n m f

set_option maxRecDepth 100000 in
set_option maxHeartbeats 1000000 in
theorem split_any (A : Option Addr) (n c : Nat) (l : List ByteArray) (w : World) (hr : Reads w w.heap.size 1 A n (txs l)) (hn : n ≤ 1099511627776) (hsz : ∀ s ∈ l, s.size ≤ maxLen) :
    Calls Try.prog 13 #[.slice A n c] w (Parted l w) := by
  obtain ⟨i0, hi0, hz0, hz1, hz2⟩ := info_parts text_info
  obtain ⟨j0, hj0, hy0, hy1, hy2⟩ := info_parts int_info
  have Hlen := Lib.hid (tlen hr)
  have Hsz := Lib.hid hsz
  clear hsz
  have hmm := @run_makeMap Try.prog
  go_enter Try.func13, Try.ntmps13
  go_wp2
  clear hmm
  go_loopw [2, 3, 12] (fun u v i wr => ∃ (k nd : Nat) (A1 : Option Addr) (c1 : Nat) (A2 : Option Addr) (c2 : Nat) (d : List ByteArray) (ns : List Nat), k ≤ n ∧ nd ≤ k ∧ i = .int .i64 (k : Int) ∧ u = .slice A1 nd c1 ∧ v = .slice A2 k c2 ∧ Hid (splitL (l.take k) = (d, ns)) ∧
    wr.ownsRow w.heap.size 9 1 (.slice A1 nd c1) nd (txs d) ∧ wr.ownsRow w.heap.size 3 1 (.slice A2 k c2) k (nns ns) ∧ Hid (MapT wr w.heap.size k nd (atF d)) ∧ Below w.heap.size w wr) (fun _ _ i _ => n - (intOf i).toNat)
  case atStart => exact ⟨0, 0, none, 0, none, 0, [], [], Nat.zero_le _, Nat.zero_le _, rfl, rfl, rfl, Lib.hid rfl, World.ownsRow_nil _ _ _ _, World.ownsRow_nil _ _ _ _, Lib.hid (MapS.same (MapS.made w) (fun s => by rfl)), (Below.refl _ _).alloc (Nat.le_refl _) _⟩
  case round =>
    obtain ⟨k, nd, A1, c1, A2, c2, d, ns, hk, hnd, rfl, rfl, rfl, hs, hown, hown2, hmap, hB⟩ := hrel
    by_cases hlt : k < n
    · obtain ⟨ad, v, rfl, hbk, hx, hcell⟩ := hr.at_ hlt
      rw [← hB.cell (p := ad.add k) (by rw [block_of_add]; exact hbk)] at hcell
      obtain ⟨s, hs', rfl⟩ := txs_get _ _ _ hx
      have hst := splitL_take l k s hs'
      rw [hs.out] at hst
      have hss := Hsz.out s (List.mem_of_getElem? hs')
      clear hx hs' hbk hs
      have hbase := hB.size
      have hs1 : nd + 1 ≤ maxLen := by simp only [maxLen]; omega
      have hs2 : (nd + 1) * 16 ≤ 70368744177664 := by omega
      have hs3 : k + 1 ≤ maxLen := by simp only [maxLen]; omega
      have hs4 : (k + 1) * 8 ≤ 70368744177664 := by omega
      have Hdl := Lib.hid (show d.length = nd from by have := hown.1; simpa using this)
      rcases hp : placeL d s with _ | j
      · have hst2 : splitL (l.take (k + 1)) = (d ++ [s], ns ++ [nd]) := by rw [hst]; unfold splitStep; simp only [hp]; rw [Hdl.out]
        have Hst := Lib.hid hst2
        have Hat := Lib.hid (show atF d s = none from by unfold atF; rw [hp]; rfl)
        have hput := atF_put d s hp
        rw [Hdl.out] at hput
        have Hput := Lib.hid hput
        clear hst hst2 hp hput
        go_wp2_with (first
          | (at_lookup; refine wpList_mapS_ok rfl _ _ _ rfl hmap.out Try.underlying3 Try.underlying9 Try.underlying45 (zero_int _) s hss none Hat.out rfl rfl ?_)
          | (at_builtin
             refine wpList_append_any _ rfl (.tmp 29) (.tmp 31) 22 rfl w.heap.size 9 i0 (.string ⟨#[]⟩) 1 16 Try.underlying22 hi0 hz0 hz1 hz2 rfl (by decide) A1 nd c1 _ rfl (hown.alloc _) _ 1 1 [.string s] rfl (reads_new _ _ _) (one_text s) hs1 hs2 (by simp; omega) ?_
             intro A3 c3 w3 hown3 hb3 hg3 hc3 hm3
             replace hmap := Lib.hid ((hmap.out.al (.cells #[.string s] 9)).grown hg3 ((hmap.out.al (.cells #[.string s] 9)).apart (hown.alloc _)))
             replace hown2 := own_apart (hown2.alloc (.cells #[.string s] 9)) (hown.alloc _) (by decide) hg3
             have hB3 := (hB.alloc hbase (.cells #[.string s] 9)).trans hb3
             have hbase3 := hB3.size)
          | (at_mapUpdate
             refine wpList_mapS_store rfl _ _ _ _ rfl hmap.out Try.underlying3 Try.underlying9 Try.underlying45 (by simp only [maxLen]; omega) s hss (nd : Int) (by simp [Lit.wf, IntKind.min, IntKind.max, IntKind.signed, IntKind.bits]; omega) rfl rfl rfl ?_
             intro w5 hmap5 hg5
             rw [Hat.out] at hmap5
             replace hmap5 := Lib.hid (MapS.same hmap5 (f' := atF (d ++ [s])) (fun r => Hput.out r))
             replace hown3 := own_map hmap.out hown3 hg5
             replace hown2 := own_map hmap.out hown2 hg5
             have hB5 := hB3.grown hg5 hbase3 (by intro q hq; cases hq; exact Nat.le_refl _)
             have hbase5 := hB5.size
             clear hmap hg5)
          | (at_builtin
             refine wpList_append_any _ rfl (.tmp 33) (.tmp 35) 26 rfl w.heap.size 3 j0 (.int .i64 0) 1 8 Try.underlying26 hj0 hy0 hy1 hy2 rfl (by decide) A2 k c2 _ rfl (hown2.alloc _) _ 1 1 [.int .i64 (nd : Int)] rfl (reads_new _ _ _) (one_int _ _) hs3 hs4 (by simp; omega) ?_
             intro A4 c4 w4 hown4 hb4 hg4 hc4 hm4))
        rw [if_neg (by simp)] at hmap5
        have hmap4 := (hmap5.out.al (.cells #[.int .i64 (nd : Int)] 3)).grown hg4 ((hmap5.out.al (.cells #[.int .i64 (nd : Int)] 3)).apart (hown2.alloc _))
        replace hown3 := own_apart (hown3.alloc (.cells #[.int .i64 (nd : Int)] 3)) (hown2.alloc _) (by decide) hg4
        have hB4 := (hB5.alloc hbase5 (.cells #[.int .i64 (nd : Int)] 3)).trans hb4
        rw [show txs d ++ [Value.string s] = txs (d ++ [s]) from by simp [txs]] at hown3
        rw [show nns ns ++ [Value.int .i64 (nd : Int)] = nns (ns ++ [nd]) from by simp [nns]] at hown4
        go_roundw
        case rel => exact ⟨k + 1, nd + 1, A3, c3, A4, c4, _, _, by omega, by omega, by go_num, rfl, rfl, Hst, hown3, hown4, Lib.hid hmap4, hB4⟩
        case measure => simp [intOf]; omega
      · have hst2 : splitL (l.take (k + 1)) = (d, ns ++ [j]) := by rw [hst]; unfold splitStep; simp only [hp]
        have Hst := Lib.hid hst2
        have Hat := Lib.hid (show atF d s = some (j : Int) from by unfold atF; rw [hp]; rfl)
        clear hst hst2 hp
        go_wp2_with (first
          | (at_lookup; refine wpList_mapS_ok rfl _ _ _ rfl hmap.out Try.underlying3 Try.underlying9 Try.underlying45 (zero_int _) s hss (some (j : Int)) Hat.out rfl rfl ?_)
          | (at_builtin
             refine wpList_append_any _ rfl (.tmp 33) (.tmp 35) 26 rfl w.heap.size 3 j0 (.int .i64 0) 1 8 Try.underlying26 hj0 hy0 hy1 hy2 rfl (by decide) A2 k c2 _ rfl (hown2.alloc _) _ 1 1 [.int .i64 (j : Int)] rfl (reads_new _ _ _) (one_int _ _) hs3 hs4 (by simp; omega) ?_
             intro A4 c4 w4 hown4 hb4 hg4 hc4 hm4))
        have hmap4 := (hmap.out.al (.cells #[.int .i64 (j : Int)] 3)).grown hg4 ((hmap.out.al (.cells #[.int .i64 (j : Int)] 3)).apart (hown2.alloc _))
        replace hown := own_apart (hown.alloc (.cells #[.int .i64 (j : Int)] 3)) (hown2.alloc _) (by decide) hg4
        have hB4 := (hB.alloc hbase (.cells #[.int .i64 (j : Int)] 3)).trans hb4
        rw [show nns ns ++ [Value.int .i64 (j : Int)] = nns (ns ++ [j]) from by simp [nns]] at hown4
        go_roundw
        case rel => exact ⟨k + 1, nd, A1, c1, A4, c4, _, _, by omega, by omega, by go_num, rfl, rfl, Hst, hown, hown4, Lib.hid (hmap4.mono (Nat.le_succ k)), hB4⟩
        case measure => simp [intOf]; omega
    · have hkn : k = n := by omega
      subst hkn
      have hs2 := hs.out
      rw [List.take_of_length_le (by rw [Hlen.out]; exact Nat.le_refl _)] at hs2
      have H2 := Lib.hid hs2
      have Hdl := Lib.hid (show d.length = nd from by have := hown.1; simpa using this)
      obtain ⟨_, _, hv, h1, h2⟩ := own_shape hown
      injection hv with hA hn hc'
      subst hA hc'
      obtain ⟨_, _, hv, h3, h4⟩ := own_shape hown2
      injection hv with hA hn hc'
      subst hA hc'
      clear hs2
      go_wp2
      go_ret2
      unfold Parted
      rw [H2.out, Hlen.out]
      simp only [Hdl.out]
      exact ⟨A1, c1, A2, c2, rfl, h1, h2, h3, h4, hown, hown2, hB⟩
end Go.Proofs.Ytckaohkhknoocaa
