/- The law PackKnown, walked. -/
import Derived.Test.YtnkkhplddjopnaaPackFull
import Derived.Test.YtnkkhplddjopnaaPackReads
set_option linter.unusedVariables false
set_option linter.unusedSimpArgs false
namespace Go.Proofs.Ytnkkhplddjopnaa
open Go.RowKit
theorem reads_litS (size : Nat) (w : World) (cs : Array Value) (e : TypeId) (xs : List Value) (b n : Nat) (hb : b = w.heap.size) (h : cs.toList = xs) (hn : xs.length = n * size) :
    Reads (w.alloc (.cells cs e)) (w.alloc (.cells cs e)).heap.size size (some ⟨b, 0, none⟩) n xs := by
  subst h hb
  refine ⟨hn, fun _ => ⟨_, rfl, by simp, fun j u hu => ?_⟩⟩
  have hadd : (⟨w.heap.size, 0, none⟩ : Addr).add j = ⟨w.heap.size, j, none⟩ := by unfold Addr.add; split <;> simp_all
  rw [hadd, cell_of_row _ w.heap.size j cs e (0, 0) (heap_alloc_new w _)]
  simpa using hu
theorem reads_blk {w : World} {g : Nat} {t : TypeId} {cs : Array Value} (h : Blk w g t cs) (xs : List UInt8) (hx : cs.toList = u8s xs) : Reads w w.heap.size 1 (some ⟨g, 0, none⟩) xs.length (u8s xs) := by
  refine ⟨by simp, fun _ => ⟨_, rfl, h.lt, fun j u hu => ?_⟩⟩
  have hadd : (⟨g, 0, none⟩ : Addr).add j = ⟨g, j, none⟩ := by unfold Addr.add; split <;> simp_all
  rw [hadd, h.cell]
  rw [← hx] at hu
  simpa using hu
/-- The rows that the statement names. -/
def RowsAt (w : World) (G : Nat) : Prop := ∀ i, i < 11 → ∃ A n xs, w.cell? ⟨G, i, none⟩ = some (.slice A n n) ∧ G < w.heap.size ∧ Reads w w.heap.size 1 A n (u8s xs) ∧ n ≤ 10
theorem RowsAt.on {w w' : World} {G : Nat} (h : RowsAt w G) (hb : Below w.heap.size w w') : RowsAt w' G := by
  intro i hi
  obtain ⟨A, n, xs, h1, h2, h3, h4⟩ := h i hi
  exact ⟨A, n, xs, (hb.cell (p := ⟨G, i, none⟩) h2).trans h1, Nat.lt_of_lt_of_le h2 hb.size, h3.on hb, h4⟩
def rowsL : List (List UInt8) := [[0], [1], [127], [128], [3, 97, 98], [3, 97, 98, 99], [3, 97, 98, 99, 100], [255, 255, 255, 255, 255, 255, 255, 255, 255, 1], [128, 128, 0], [1, 2, 3]]
def litRows (w : World) (l : List (List UInt8)) : World := l.foldl (fun w x => w.alloc (.cells (u8s x).toArray 5)) w
theorem litRows_spec : ∀ (l : List (List UInt8)) (w : World), (litRows w l).heap.size = w.heap.size + l.length ∧ Below w.heap.size w (litRows w l) ∧ ∀ i x, l[i]? = some x → Blk (litRows w l) (w.heap.size + i) 5 (u8s x).toArray := by
  intro l
  induction l with
  | nil => intro w; exact ⟨rfl, Below.refl _ _, fun i x h => by simp at h⟩
  | cons y l ih =>
    intro w
    obtain ⟨h1, h2, h3⟩ := ih (w.alloc (.cells (u8s y).toArray 5))
    have hs : (w.alloc (.cells (u8s y).toArray 5)).heap.size = w.heap.size + 1 := by simp
    refine ⟨by rw [litRows, List.foldl_cons]; show (litRows _ l).heap.size = _; rw [h1, hs, List.length_cons]; omega, ((Below.refl _ _).alloc (Nat.le_refl _) _).trans (h2.mono (by omega)), fun i x h => ?_⟩
    cases i with
    | zero =>
      simp only [List.getElem?_cons_zero, Option.some.injEq] at h
      subst h
      exact (Blk.new w _ _).on h2
    | succ i =>
      simp only [List.getElem?_cons_succ] at h
      have := h3 i x h
      rw [hs, Nat.add_assoc, Nat.add_comm 1 i] at this
      exact this
theorem rowsAt_new (w : World) (cs : Array Value) (hcs : cs = #[.slice none 0 0, .slice (some ⟨w.heap.size, 0, none⟩) 1 1, .slice (some ⟨w.heap.size + 1, 0, none⟩) 1 1, .slice (some ⟨w.heap.size + 2, 0, none⟩) 1 1, .slice (some ⟨w.heap.size + 3, 0, none⟩) 1 1, .slice (some ⟨w.heap.size + 4, 0, none⟩) 3 3, .slice (some ⟨w.heap.size + 5, 0, none⟩) 4 4, .slice (some ⟨w.heap.size + 6, 0, none⟩) 5 5, .slice (some ⟨w.heap.size + 7, 0, none⟩) 10 10, .slice (some ⟨w.heap.size + 8, 0, none⟩) 3 3, .slice (some ⟨w.heap.size + 9, 0, none⟩) 3 3]) :
    RowsAt ((litRows w rowsL).alloc (.cells cs 32)) (w.heap.size + 10) ∧ Below w.heap.size w ((litRows w rowsL).alloc (.cells cs 32)) := by
  obtain ⟨h1, h2, h3⟩ := litRows_spec rowsL w
  have hs : (litRows w rowsL).heap.size = w.heap.size + 10 := h1
  have hB : Below w.heap.size w ((litRows w rowsL).alloc (.cells cs 32)) := h2.alloc (by omega) _
  have hG : Blk ((litRows w rowsL).alloc (.cells cs 32)) (w.heap.size + 10) 32 cs := by
    rw [← hs]
    exact Blk.new _ _ _
  have hlt := hG.lt
  have hbk : ∀ i x, rowsL[i]? = some x → Reads ((litRows w rowsL).alloc (.cells cs 32)) ((litRows w rowsL).alloc (.cells cs 32)).heap.size 1 (some ⟨w.heap.size + i, 0, none⟩) x.length (u8s x) := fun i x h => reads_blk ((h3 i x h).alloc _) x rfl
  refine ⟨fun i hi => ?_, hB⟩
  have hc : ∀ v, cs[i]? = some v → ((litRows w rowsL).alloc (.cells cs 32)).cell? ⟨w.heap.size + 10, i, none⟩ = some v := fun v h => by rw [hG.cell, h]
  subst hcs
  rcases i with _ | _ | _ | _ | _ | _ | _ | _ | _ | _ | _ | i
  · exact ⟨none, 0, [], hc _ rfl, hlt, Reads.none_, by decide⟩
  all_goals first
    | exact ⟨_, _, _, hc _ rfl, hlt, hbk 0 _ rfl, by decide⟩
    | exact ⟨_, _, _, hc _ rfl, hlt, hbk 1 _ rfl, by decide⟩
    | exact ⟨_, _, _, hc _ rfl, hlt, hbk 2 _ rfl, by decide⟩
    | exact ⟨_, _, _, hc _ rfl, hlt, hbk 3 _ rfl, by decide⟩
    | exact ⟨_, _, _, hc _ rfl, hlt, hbk 4 _ rfl, by decide⟩
    | exact ⟨_, _, _, hc _ rfl, hlt, hbk 5 _ rfl, by decide⟩
    | exact ⟨_, _, _, hc _ rfl, hlt, hbk 6 _ rfl, by decide⟩
    | exact ⟨_, _, _, hc _ rfl, hlt, hbk 7 _ rfl, by decide⟩
    | exact ⟨_, _, _, hc _ rfl, hlt, hbk 8 _ rfl, by decide⟩
    | exact ⟨_, _, _, hc _ rfl, hlt, hbk 9 _ rfl, by decide⟩
    | omega
theorem akOk5 (k n : Int) (h1 : 0 ≤ k) (h2 : k < 8) (h3 : -1 ≤ n) (h4 : n < 6) : AkOk [(k, n), (0, 0), (k, 1), (6, 2), (k, n)] := by
  intro p hp
  simp only [List.mem_cons, List.not_mem_nil, or_false] at hp
  rcases hp with rfl | rfl | rfl | rfl | rfl <;> simp only [] <;> omega
theorem akOk3 : AkOk [(3, 9223372036854775807), (4, 9223372036854775807), (4, -9223372036854775808)] := by
  intro p hp
  simp only [List.mem_cons, List.not_mem_nil, or_false] at hp
  rcases hp with rfl | rfl | rfl <;> simp only [] <;> omega
theorem akOk2 : AkOk [(4, -9223372036854775808), (3, -9223372036854775808)] := by
  intro p hp
  simp only [List.mem_cons, List.not_mem_nil, or_false] at hp
  rcases hp with rfl | rfl <;> simp only [] <;> omega
theorem pcOk4 (k : Int) (h1 : 0 ≤ k) (h2 : k < 6) : PcOk [(k, 1099511627776, ⟨#[97, 98, 99]⟩), (4, 0, ⟨#[]⟩), (k, 3, ⟨#[]⟩), (0, 0, ⟨#[]⟩)] := by
  intro p hp
  simp only [List.mem_cons, List.not_mem_nil, or_false] at hp
  rcases hp with rfl | rfl | rfl | rfl <;> simp only [] <;> exact ⟨by omega, by omega, by decide, by decide⟩
theorem pcOk2 (k : Int) (h1 : 0 ≤ k) (h2 : k < 6) : PcOk [(k, 18446744073709551615, ⟨#[97, 98, 99, 100, 101]⟩), (0, 0, ⟨#[]⟩)] := by
  intro p hp
  simp only [List.mem_cons, List.not_mem_nil, or_false] at hp
  rcases hp with rfl | rfl <;> simp only [] <;> exact ⟨by omega, by omega, by decide, by decide⟩
set_option maxRecDepth 100000 in
set_option maxHeartbeats 8000000 in
theorem packKnown_walk (w : World) :
    Calls Try.prog 10 #[] w fun e w' => e = .returned (.bool true) ∧ Below w.heap.size w w' := by
  obtain ⟨base, hbase⟩ : ∃ g, g = w.heap.size := ⟨_, rfl⟩
  have Hz := Lib.hid (Nat.le_of_eq hbase)
  rw [← hbase]
  clear hbase
  go_enter Try.func10, Try.ntmps10
  go_wp2
  go_loopw [1] (fun i wr => ∃ m : Int, -1 ≤ m ∧ m ≤ 14 ∧ i = .int .i64 m ∧ Below base w wr) (fun i _ => (14 - intOf i).toNat)
  case atStart => exact ⟨-1, by decide, by decide, rfl, Below.refl _ _⟩
  case round =>
    obtain ⟨m, hm1, hm2, rfl, hb⟩ := hrel
    by_cases hlt : m < 14
    · have d1 : decide (m < 14) = true := by simp; omega
      go_wp2
      go_loopw [2] (fun i wr => ∃ k : Int, 0 ≤ k ∧ k ≤ 6 ∧ i = .int .i64 k ∧ Below base w wr) (fun i _ => (6 - intOf i).toNat)
      case atStart => exact ⟨0, by decide, by decide, rfl, hb⟩
      case round =>
        clear hb
        obtain ⟨k, hk1, hk2, rfl, hb⟩ := hrel
        by_cases hkt : k < 6
        · have d2 : decide (k < 6) = true := by simp; omega
          have Hb := Lib.hid hb
          clear hb
          go_wp2_with fail
          with_reducible refine (packWrites_walk m _ _ _ _ _ (by omega) (by omega) (by exact reads_litS 3 _ _ _ (pcs [(k, 1099511627776, ⟨#[97, 98, 99]⟩), (4, 0, ⟨#[]⟩), (k, 3, ⟨#[]⟩), (0, 0, ⟨#[]⟩)]) _ _ (by simp) rfl rfl) (by decide) (by decide) (pcOk4 k hk1 hkt)).mono ?_
          rintro e w5 ⟨rfl, hb5⟩
          have hsz := Nat.le_trans Hz.out Hb.out.size
          have Hb6 := Lib.hid ((Hb.out.alloc hsz _).trans (hb5.mono (Nat.le_trans hsz (by simp))))
          clear hb5
          go_wp2_with fail
          with_reducible refine (packFull_walk m _ _ _ _ _ (by omega) (by omega) (by exact reads_litS 3 _ _ _ (pcs [(k, 18446744073709551615, ⟨#[97, 98, 99, 100, 101]⟩), (0, 0, ⟨#[]⟩)]) _ _ (by simp) rfl rfl) (by decide) (by decide) (pcOk2 k hk1 hkt)).mono ?_
          rintro e w7 ⟨rfl, hb7⟩
          have hsz5 := Nat.le_trans Hz.out Hb6.out.size
          have Hb8 := Lib.hid ((Hb6.out.alloc hsz5 _).trans (hb7.mono (Nat.le_trans hsz5 (by simp))))
          clear hb7
          go_wp2
          go_roundw
          case rel => exact ⟨k + 1, by omega, by omega, by go_num, Hb8.out⟩
          case measure => simp [intOf]; omega
        · have d2 : decide (k < 6) = false := by simp; omega
          go_wp2
          go_roundw
          case rel => exact ⟨m + 1, by omega, by omega, by go_num, hb⟩
          case measure => simp [intOf]; omega
    · have d1 : decide (m < 14) = false := by simp; omega
      have Hb := Lib.hid hb
      have hsz := Nat.le_trans Hz.out hb.size
      clear hb
      obtain ⟨G, hG⟩ : ∃ G, G = wr.heap.size + 1 + 1 + 1 + 1 + 1 + 1 + 1 + 1 + 1 + 1 := ⟨_, rfl⟩
      have HG := Lib.hid hG
      clear hG
      have Hst := Lib.hid (rowsAt_new wr _ rfl)
      rw [show wr.heap.size + 10 = G from HG.out.symm] at Hst
      go_wp2
      rw [← HG.out]
      go_loopw [4] (fun i wr2 => ∃ k : Nat, k ≤ 11 ∧ i = .int .i64 (k : Int) ∧ RowsAt wr2 G ∧ Below base w wr2) (fun i _ => 11 - (intOf i).toNat)
      case atStart =>
        exact ⟨0, by decide, rfl, Hst.out.1, Hb.out.trans (Hst.out.2.mono hsz)⟩
      case round =>
        clear Hb Hst
        obtain ⟨t, ht, rfl, HR, hb⟩ := hrel
        by_cases htl : t < 11
        · have d3 : decide ((t : Int) < 11) = true := by simp; omega
          go_wp2
          go_loopw [5] (fun i wr2 => ∃ k : Int, 0 ≤ k ∧ k ≤ 8 ∧ i = .int .i64 k ∧ RowsAt wr2 G ∧ Below base w wr2) (fun i _ => (8 - intOf i).toNat)
          case atStart => exact ⟨0, by decide, by decide, rfl, HR, hb⟩
          case round =>
            clear HR hb
            obtain ⟨k, hk1, hk2, rfl, HR, hb⟩ := hrel
            by_cases hkt : k < 8
            · have d4 : decide (k < 8) = true := by simp; omega
              go_wp2
              go_loopw [6] (fun i wr2 => ∃ m : Int, -1 ≤ m ∧ m ≤ 6 ∧ i = .int .i64 m ∧ RowsAt wr2 G ∧ Below base w wr2) (fun i _ => (6 - intOf i).toNat)
              case atStart => exact ⟨-1, by decide, by decide, rfl, HR, hb⟩
              case round =>
                clear HR hb
                obtain ⟨m, hm3, hm4, rfl, HR, hb⟩ := hrel
                by_cases hmt : m < 6
                · have d5 : decide (m < 6) = true := by simp; omega
                  obtain ⟨A, n, xs, hcell, hgl, hrx, hn⟩ := HR t htl
                  have HR1 := Lib.hid HR
                  have Hb := Lib.hid hb
                  have Hrx := Lib.hid hrx
                  clear HR hb hrx
                  go_wp2_with fail
                  with_reducible refine (packReads_walk A n n xs _ _ _ _ _ (by exact Hrx.out.al _) (Nat.le_refl _) (by simp only [maxLen]; omega) (by exact reads_litS 2 _ _ _ (aks [(k, m), (0, 0), (k, 1), (6, 2), (k, m)]) _ _ (by simp) rfl rfl) (by decide) (by decide) (akOk5 k m hk1 hkt hm3 hmt)).mono ?_
                  rintro e w5 ⟨rfl, hb5⟩
                  have hsz := Nat.le_trans Hz.out Hb.out.size
                  have Hb6 := Lib.hid ((Hb.out.alloc hsz _).trans (hb5.mono (Nat.le_trans hsz (by simp))))
                  have HR2 := Lib.hid ((HR1.out.on (bal (Below.refl _ _) _)).on hb5)
                  clear hb5 hcell
                  go_wp2
                  go_roundw
                  case rel => exact ⟨m + 1, by omega, by omega, by go_num, HR2.out, Hb6.out⟩
                  case measure => simp [intOf]; omega
                · have d5 : decide (m < 6) = false := by simp; omega
                  go_wp2
                  go_roundw
                  case rel => exact ⟨k + 1, by omega, by omega, by go_num, HR, hb⟩
                  case measure => simp [intOf]; omega
            · have d4 : decide (k < 8) = false := by simp; omega
              obtain ⟨A, n, xs, hcell, hgl, hrx, hn⟩ := HR t htl
              have HR1 := Lib.hid HR
              have Hb := Lib.hid hb
              have Hrx := Lib.hid hrx
              clear HR hb hrx
              go_wp2_with fail
              with_reducible refine (packReads_walk A n n xs _ _ _ _ _ (by exact Hrx.out.al _) (Nat.le_refl _) (by simp only [maxLen]; omega) (by exact reads_litS 2 _ _ _ (aks [(3, 9223372036854775807), (4, 9223372036854775807), (4, -9223372036854775808)]) _ _ (by simp) rfl rfl) (by decide) (by decide) akOk3).mono ?_
              rintro e w5 ⟨rfl, hb5⟩
              have hsz := Nat.le_trans Hz.out Hb.out.size
              have Hb6 := Lib.hid ((Hb.out.alloc hsz _).trans (hb5.mono (Nat.le_trans hsz (by simp))))
              have hbx := bon (bal (Below.refl _ _) _) hb5
              have hcell2 := (hbx.cell (p := ⟨G, t, none⟩) hgl).trans hcell
              have Hrx2 := Lib.hid (Hrx.out.on hbx)
              have HR2 := Lib.hid (HR1.out.on hbx)
              clear hb5 hcell hbx
              go_wp2_with fail
              with_reducible refine (packReads_walk A n n xs _ _ _ _ _ (by exact Hrx2.out.al _) (Nat.le_refl _) (by simp only [maxLen]; omega) (by exact reads_litS 2 _ _ _ (aks [(4, -9223372036854775808), (3, -9223372036854775808)]) _ _ (by simp) rfl rfl) (by decide) (by decide) akOk2).mono ?_
              rintro e w7 ⟨rfl, hb7⟩
              have hsz5 := Nat.le_trans Hz.out Hb6.out.size
              have Hb8 := Lib.hid ((Hb6.out.alloc hsz5 _).trans (hb7.mono (Nat.le_trans hsz5 (by simp))))
              have HR3 := Lib.hid (HR2.out.on (bon (bal (Below.refl _ _) _) hb7))
              clear hb7 hcell2
              go_wp2
              go_roundw
              case rel => exact ⟨t + 1, by omega, by go_num, HR3.out, Hb8.out⟩
              case measure => simp [intOf]; omega
        · have d3 : decide ((t : Int) < 11) = false := by simp; omega
          have Hb := Lib.hid hb
          have hsz := Nat.le_trans Hz.out hb.size
          clear HR hb
          go_wp2_with fail
          with_reducible refine (works_any _).mono ?_
          rintro e w7 ⟨rfl, hb7⟩
          have hb8 := Hb.out.trans (hb7.mono hsz)
          have Hb8 := Lib.hid hb8
          clear hb7 hb8
          go_wp2_with fail
          with_reducible refine (newW_any (-9223372036854775808) _ (by decide) (by decide)).mono ?_
          rintro e w9 ⟨rfl, hp, hb9, hs9⟩
          have hsz8 := Nat.le_trans Hz.out Hb8.out.size
          have Hb10 := Lib.hid (Hb8.out.trans (hb9.mono hsz8))
          clear hb9 hs9
          go_wp2_with fail
          with_reducible refine (wlen_any w7.heap.size w7.heap.size none [] _ false _ hp).mono ?_
          rintro e w' ⟨rfl, rfl⟩
          clear hp
          go_wp2
          go_ret
          exact ⟨rfl, Hb10.out⟩
end Go.Proofs.Ytnkkhplddjopnaa
