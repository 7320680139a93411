/- Layer 15, walked: Split of the program and of the reference. -/
import Derived.Test.YtckaohkhknoocaaDictCut
import Derived.Test.YtckaohkhknoocaaMapS
import Derived.Test.YtckaohkhknoocaaDictBytes
set_option linter.unusedVariables false
set_option linter.unusedSimpArgs false
namespace Go.Proofs.Ytckaohkhknoocaa
open Go.RowKit

def nns (l : List Nat) : List Value := l.map fun (n : Nat) => Value.int .i64 (n : Int)
@[simp] theorem nns_length (l : List Nat) : (nns l).length = l.length := by simp [nns]
theorem nns_append (l m : List Nat) : nns (l ++ m) = nns l ++ nns m := by simp [nns]
theorem nns_ins (l : List Nat) : nns l = ins (l.map Int.ofNat) := by simp [nns, ins]

theorem placeL_take_miss {d : List ByteArray} {s x : ByteArray} {k : Nat} (h : placeL (d.take k) s = none) (hx : d[k]? = some x) (hne : x ≠ s) : placeL (d.take (k + 1)) s = none := by
  rw [placeL_none] at h ⊢
  rw [List.take_add_one, hx, List.mem_append, not_or]
  refine ⟨h, ?_⟩
  simp only [Option.toList_some, List.mem_singleton]
  exact fun e => hne e.symm
theorem placeL_take_hit : ∀ {d : List ByteArray} {s : ByteArray} {k : Nat} (h : placeL (d.take k) s = none) (hx : d[k]? = some s), placeL d s = some k
  | x :: r, s, 0, h, hx => by
    obtain rfl : x = s := by simpa using hx
    simp [placeL]
  | x :: r, s, k + 1, h, hx => by
    rw [List.take_succ_cons, placeL] at h
    split at h
    · cases h
    · rename_i hne
      rw [Option.map_eq_none_iff] at h
      rw [placeL, if_neg hne, placeL_take_hit h (by simpa using hx)]
      rfl
def placeI (d : List ByteArray) (s : ByteArray) : Int := match placeL d s with | some k => (k : Int) | none => -1

set_option maxRecDepth 100000 in
set_option maxHeartbeats 400000 in
theorem place_any (A : Option Addr) (n c : Nat) (d : List ByteArray) (s : ByteArray) (w : World) (hr : Reads w w.heap.size 1 A n (txs d)) (hn : n ≤ maxLen) :
    Calls Try.prog 26 #[.slice A n c, .string s] w fun e w' => e = .returned (.int .i64 (placeI d s)) ∧ w = w' := by
  unfold maxLen at hn
  have Hlen := Lib.hid (tlen hr)
  go_enter Try.func26, Try.ntmps26
  go_wp2
  go_loop [5] (fun i => ∃ k : Nat, k ≤ n ∧ i = .int .i64 (k : Int) ∧ Hid (placeL (d.take k) s = none)) (fun i => n - (intOf i).toNat)
  case atStart => exact ⟨0, Nat.zero_le _, rfl, Lib.hid rfl⟩
  case round =>
    obtain ⟨k, hk, rfl, hno⟩ := hrel
    by_cases hlt : k < n
    · obtain ⟨ad, v, rfl, hbk, hx, hcell⟩ := hr.at_ hlt
      obtain ⟨x, hx', rfl⟩ := txs_get _ _ _ hx
      clear hx
      by_cases hxs : x = s
      · subst hxs
        have Hp := Lib.hid (placeL_take_hit hno.out hx')
        clear hx'
        go_wp2
        go_ret
        exact ⟨by unfold placeI; rw [Hp.out]; rfl, rfl⟩
      · have Hp := Lib.hid (placeL_take_miss hno.out hx' hxs)
        have hne : (x.toList == s.toList) = false := by rw [Lib.bytes_beq_false_iff]; exact hxs
        clear hx' hxs
        go_wp2
        go_round
        case rel => exact ⟨k + 1, by omega, by go_num, Hp⟩
        case measure => simp [intOf]; omega
    · have hkn : k = n := by omega
      have he := hno.out
      subst hkn
      rw [List.take_of_length_le (by rw [Hlen.out]; exact Nat.le_refl _)] at he
      have He := Lib.hid he
      clear he
      go_wp2
      go_ret
      exact ⟨by unfold placeI; rw [He.out]; rfl, rfl⟩

/-- What Split hands back. -/
def Parted (l : List ByteArray) (w : World) (e : Ending) (w' : World) : Prop :=
  ∃ (A : Option Addr) (c : Nat) (A2 : Option Addr) (c2 : Nat), e = .returned (.tuple #[.slice A (splitL l).1.length c, .slice A2 l.length c2]) ∧ (splitL l).1.length ≤ c ∧ c ≤ maxLen ∧ l.length ≤ c2 ∧ c2 ≤ maxLen ∧
    w'.ownsRow w.heap.size 9 1 (.slice A (splitL l).1.length c) (splitL l).1.length (txs (splitL l).1) ∧ w'.ownsRow w.heap.size 3 1 (.slice A2 l.length c2) l.length (nns (splitL l).2) ∧ Below w.heap.size w w'

theorem splitL_len (l : List ByteArray) : (splitL l).1.length ≤ l.length ∧ (splitL l).2.length = l.length := by
  have h : ∀ (l : List ByteArray) (st : List ByteArray × List Nat), (l.foldl splitStep st).1.length ≤ st.1.length + l.length ∧ (l.foldl splitStep st).2.length = st.2.length + l.length := by
    intro l
    induction l with
    | nil => intro st; simp
    | cons s l ih =>
      intro st
      rw [List.foldl_cons]
      have := ih (splitStep st s)
      have h2 : (splitStep st s).1.length ≤ st.1.length + 1 ∧ (splitStep st s).2.length = st.2.length + 1 := by
        unfold splitStep
        split <;> simp
      simp only [List.length_cons]
      omega
  have := h l ([], [])
  simpa [splitL] using this
theorem splitL_take (l : List ByteArray) (k : Nat) (s : ByteArray) (h : l[k]? = some s) : splitL (l.take (k + 1)) = splitStep (splitL (l.take k)) s := by
  rw [List.take_add_one, h]
  exact splitL_snoc _ _
theorem one_text (s : ByteArray) : ∀ u ∈ [Value.string s], u.oneCell' = true := txs_one [s]

set_option maxRecDepth 100000 in
set_option maxHeartbeats 1000000 in
theorem refsplit_any (A : Option Addr) (n c : Nat) (l : List ByteArray) (w : World) (hr : Reads w w.heap.size 1 A n (txs l)) (hn : n ≤ 1099511627776) :
    Calls Try.prog 14 #[.slice A n c] w (Parted l w) := by
  obtain ⟨i0, hi0, hz0, hz1, hz2⟩ := info_parts text_info
  obtain ⟨j0, hj0, hy0, hy1, hy2⟩ := info_parts int_info
  have Hlen := Lib.hid (tlen hr)
  go_enter Try.func14, Try.ntmps14
  go_wp2
  go_loopw [4, 5, 6] (fun u v i wr => ∃ (k nd : Nat) (A1 : Option Addr) (c1 : Nat) (A2 : Option Addr) (c2 : Nat) (d : List ByteArray) (ns : List Nat), k ≤ n ∧ nd ≤ k ∧ i = .int .i64 (k : Int) ∧ u = .slice A1 nd c1 ∧ v = .slice A2 k c2 ∧ Hid (splitL (l.take k) = (d, ns)) ∧
    wr.ownsRow w.heap.size 9 1 (.slice A1 nd c1) nd (txs d) ∧ wr.ownsRow w.heap.size 3 1 (.slice A2 k c2) k (nns ns) ∧ Below w.heap.size w wr) (fun _ _ i _ => n - (intOf i).toNat)
  case atStart => exact ⟨0, 0, none, 0, none, 0, [], [], Nat.zero_le _, Nat.zero_le _, rfl, rfl, rfl, Lib.hid rfl, World.ownsRow_nil _ _ _ _, World.ownsRow_nil _ _ _ _, Below.refl _ _⟩
  case round =>
    obtain ⟨k, nd, A1, c1, A2, c2, d, ns, hk, hnd, rfl, rfl, rfl, hs, hown, hown2, hB⟩ := hrel
    by_cases hlt : k < n
    · obtain ⟨ad, v, rfl, hbk, hx, hcell⟩ := hr.at_ hlt
      rw [← hB.cell (p := ad.add k) (by rw [block_of_add]; exact hbk)] at hcell
      obtain ⟨s, hs', rfl⟩ := txs_get _ _ _ hx
      have hst := splitL_take l k s hs'
      rw [hs.out] at hst
      clear hx hs' hbk hs
      have hbase := hB.size
      have hs1 : nd + 1 ≤ maxLen := by simp only [maxLen]; omega
      have hs2 : (nd + 1) * 16 ≤ 70368744177664 := by omega
      have hs3 : k + 1 ≤ maxLen := by simp only [maxLen]; omega
      have hs4 : (k + 1) * 8 ≤ 70368744177664 := by omega
      have Hdl := Lib.hid (show d.length = nd from by have := hown.1; simpa using this)
      rcases hp : placeL d s with _ | j
      · have hpi : placeI d s = -1 := by unfold placeI; rw [hp]
        have hst2 : splitL (l.take (k + 1)) = (d ++ [s], ns ++ [nd]) := by rw [hst]; unfold splitStep; simp only [hp]; rw [Hdl.out]
        have Hst := Lib.hid hst2
        have Hpi := Lib.hid hpi
        clear hst hst2 hpi hp
        go_wp2_with fail
        with_reducible refine (place_any _ nd c1 d s _ (own_reads hown) (by simp only [maxLen]; omega)).mono ?_
        rintro e w' ⟨rfl, rfl⟩
        rw [Hpi.out]
        go_wp2_with (first
          | (at_builtin
             refine wpList_append_any _ rfl (.tmp 24) (.tmp 29) 22 rfl w.heap.size 9 i0 (.string ⟨#[]⟩) 1 16 Try.underlying22 hi0 hz0 hz1 hz2 rfl (by decide) A1 nd c1 _ rfl (hown.alloc _) _ 1 1 [.string s] rfl (reads_new _ _ _) (one_text s) hs1 hs2 (by simp; omega) ?_
             intro A3 c3 w3 hown3 hb3 hg3 hc3 hm3
             replace hown2 := own_apart (hown2.alloc (.cells #[.string s] 9)) (hown.alloc _) (by decide) hg3
             have hB3 := (hB.alloc hbase (.cells #[.string s] 9)).trans hb3
             have hbase3 := hB3.size)
          | (at_builtin
             refine wpList_append_any _ rfl (.tmp 31) (.tmp 33) 26 rfl w.heap.size 3 j0 (.int .i64 0) 1 8 Try.underlying26 hj0 hy0 hy1 hy2 rfl (by decide) A2 k c2 _ rfl (hown2.alloc _) _ 1 1 [.int .i64 (nd : Int)] rfl (reads_new _ _ _) (one_int _ _) hs3 hs4 (by simp; omega) ?_
             intro A4 c4 w4 hown4 hb4 hg4 hc4 hm4))
        replace hown3 := own_apart (hown3.alloc (.cells #[.int .i64 (nd : Int)] 3)) (hown2.alloc _) (by decide) hg4
        have hB4 := (hB3.alloc hbase3 (.cells #[.int .i64 (nd : Int)] 3)).trans hb4
        rw [show txs d ++ [Value.string s] = txs (d ++ [s]) from by simp [txs]] at hown3
        rw [show nns ns ++ [Value.int .i64 (nd : Int)] = nns (ns ++ [nd]) from by simp [nns]] at hown4
        go_roundw
        case rel => exact ⟨k + 1, nd + 1, A3, c3, A4, c4, _, _, by omega, by omega, by go_num, rfl, rfl, Hst, hown3, hown4, hB4⟩
        case measure => simp [intOf]; omega
      · have hpi : placeI d s = (j : Int) := by unfold placeI; rw [hp]
        have hst2 : splitL (l.take (k + 1)) = (d, ns ++ [j]) := by rw [hst]; unfold splitStep; simp only [hp]
        have Hst := Lib.hid hst2
        have Hpi := Lib.hid hpi
        clear hst hst2 hpi hp
        go_wp2_with fail
        with_reducible refine (place_any _ nd c1 d s _ (own_reads hown) (by simp only [maxLen]; omega)).mono ?_
        rintro e w' ⟨rfl, rfl⟩
        rw [Hpi.out]
        go_wp2_with (at_builtin
                     refine wpList_append_any _ rfl (.tmp 31) (.tmp 33) 26 rfl w.heap.size 3 j0 (.int .i64 0) 1 8 Try.underlying26 hj0 hy0 hy1 hy2 rfl (by decide) A2 k c2 _ rfl (hown2.alloc _) _ 1 1 [.int .i64 (j : Int)] rfl (reads_new _ _ _) (one_int _ _) hs3 hs4 (by simp; omega) ?_
                     intro A4 c4 w4 hown4 hb4 hg4 hc4 hm4)
        replace hown := own_apart (hown.alloc (.cells #[.int .i64 (j : Int)] 3)) (hown2.alloc _) (by decide) hg4
        have hB4 := (hB.alloc hbase (.cells #[.int .i64 (j : Int)] 3)).trans hb4
        rw [show nns ns ++ [Value.int .i64 (j : Int)] = nns (ns ++ [j]) from by simp [nns]] at hown4
        go_roundw
        case rel => exact ⟨k + 1, nd, A1, c1, A4, c4, _, _, by omega, by omega, by go_num, rfl, rfl, Hst, hown, hown4, hB4⟩
        case measure => simp [intOf]; omega
    · have hkn : k = n := by omega
      subst hkn
      have hs2 := hs.out
      rw [List.take_of_length_le (by rw [Hlen.out]; exact Nat.le_refl _)] at hs2
      have H2 := Lib.hid hs2
      have Hdl := Lib.hid (show d.length = nd from by have := hown.1; simpa using this)
      obtain ⟨_, _, hv, h1, h2⟩ := own_shape hown
      injection hv with hA hn hc'
      subst hA hc'
      obtain ⟨_, _, hv, h3, h4⟩ := own_shape hown2
      injection hv with hA hn hc'
      subst hA hc'
      clear hs2
      go_wp2
      go_ret2
      unfold Parted
      rw [H2.out, Hlen.out]
      simp only [Hdl.out]
      exact ⟨A1, c1, A2, c2, rfl, h1, h2, h3, h4, hown, hown2, hB⟩
end Go.Proofs.Ytckaohkhknoocaa
