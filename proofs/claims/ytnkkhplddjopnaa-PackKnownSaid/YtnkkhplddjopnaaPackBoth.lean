/- Layer 3: both readers side by side; readers whose rows lie above a mark; spoil, told by the block that it turns. -/
import Derived.Test.YtnkkhplddjopnaaPackOpen
set_option linter.unusedVariables false
set_option linter.unusedSimpArgs false
namespace Go.Proofs.Ytnkkhplddjopnaa
open Go.RowKit
theorem add_pos3 (a : Addr) (j : Nat) (h : 0 < j) : a.add j = ⟨a.block, a.off + j, none⟩ := by unfold Addr.add; rw [if_neg (by simpa using Nat.ne_of_gt h)]
theorem add_zero3 (a : Addr) : a.add 0 = a := by unfold Addr.add; simp
theorem reads_not {w : World} {B n g : Nat} {A : Option Addr} {l : List UInt8} {t : TypeId} {cs : Array Value} (h : Reads w B 1 A n (u8s l)) (hb : Blk w g t cs) (hc : ∀ (i : Nat) (b : Int), cs[i]? ≠ some (.int .u8 b)) (hn : 0 < n) : ∀ ad, A = some ad → ad.block ≠ g := by
  intro ad hA hg
  obtain ⟨ad2, u, hA2, _, hu, hcell⟩ := h.at_ hn
  rw [hA] at hA2
  cases hA2
  obtain ⟨z, _, rfl⟩ := u8s_get _ _ _ hu
  rw [add_zero3] at hcell
  unfold Blk at hb
  simp only [World.cell?, hg, hb] at hcell
  split at hcell
  · cases hcell
  · exact hc _ _ hcell
theorem reads_grown {w w' : World} {size n g : Nat} {A : Option Addr} {xs : List Value} (h : Reads w w.heap.size size A n xs) (hg : w.grownBy w' (some g)) (hne : 0 < n → ∀ ad, A = some ad → ad.block ≠ g) : Reads w' w'.heap.size size A n xs := by
  refine ⟨h.1, fun hn => ?_⟩
  obtain ⟨ad, e, h1, h2⟩ := h.2 hn
  refine ⟨ad, e, Nat.lt_of_lt_of_le h1 hg.size, fun j u hu => ?_⟩
  exact hg.cell (h2 j u hu) (by have := hne hn ad e; rw [block_of_add]; simp; omega)
theorem blk_grown {w w' : World} {g k : Nat} {t : TypeId} {cs : Array Value} (h : Blk w g t cs) (hg : w.grownBy w' (some k)) (hne : g ≠ k) : Blk w' g t cs := (hg.block g h.lt (by simp; omega)).trans h
/-- Both readers. -/
def RBoth (w : World) (g1 g2 : Nat) (xs : List UInt8) (p1 e1 p2 e2 : Nat) : Prop := g1 < g2 ∧ PRd w g1 xs p1 e1 ∧ RRd w g2 xs p2 e2
section
variable {w w' : World} {g1 g2 B : Nat} {xs : List UInt8} {p1 e1 p2 e2 p3 e3 : Nat} {v : Value} {e : Ending}
theorem RBoth.on (h : RBoth w g1 g2 xs p1 e1 p2 e2) (hb : Below w.heap.size w w') : RBoth w' g1 g2 xs p1 e1 p2 e2 := ⟨h.1, h.2.1.on hb, h.2.2.on hb⟩
theorem RBoth.p (h : RBoth w g1 g2 xs p1 e1 p2 e2) : PRd w g1 xs p1 e1 := h.2.1
theorem RBoth.r (h : RBoth w g1 g2 xs p1 e1 p2 e2) : RRd w g2 xs p2 e2 := h.2.2
theorem RBoth.one (h : RBoth w g1 g2 xs p1 e1 p2 e2) (ha : Asked g1 xs v p3 e3 w e w') (hB : B ≤ w.heap.size) (hg : B ≤ g1) : e = .returned v ∧ Below B w w' ∧ RBoth w' g1 g2 xs p3 e3 p2 e2 := by
  obtain ⟨h0, h1, k0, A, c, k1, k2, k3, k4⟩ := h
  obtain ⟨a1, a2, a3⟩ := ha
  obtain ⟨_, A9, c9, q1, _⟩ := h1
  refine ⟨a1, grown_under a2 hB hg, h0, a3, k0, A, c, blk_grown k1 a2 (by omega), reads_grown k2 a2 (fun hn => ?_), k3, k4⟩
  refine reads_not k2 q1 (fun i b => ?_) hn
  rcases i with _ | _ | _ | _ | i <;> simp
theorem RBoth.two (h : RBoth w g1 g2 xs p1 e1 p2 e2) (ha : RAsked g2 xs v p3 e3 w e w') (hB : B ≤ w.heap.size) (hg : B ≤ g1) : e = .returned v ∧ Below B w w' ∧ RBoth w' g1 g2 xs p1 e1 p3 e3 := by
  obtain ⟨h0, ⟨k0, A, c, k1, k2, k3, k4⟩, h1⟩ := h
  obtain ⟨a1, a2, a3⟩ := ha
  exact ⟨a1, grown_under a2 hB (by omega), h0, ⟨k0, A, c, blk_grown k1 a2 (by omega), reads_grown k2 a2 (fun hn ad hA => by have := k3 hn ad hA; omega), k3, k4⟩, a3⟩
end
/-- A new reader, its row above a mark. -/
def PNew (w w' : World) (l : List UInt8) (e : Ending) : Prop :=
  ∃ g, e = .returned (.pointer (some ⟨g, 0, none⟩)) ∧ w.heap.size ≤ g ∧ PRd w' g l 0 0 ∧ Below w.heap.size w w' ∧ ∀ w2 k, w'.grownBy w2 (some k) → k < w.heap.size → PRd w2 g l 0 0
def RNew (w w' : World) (l : List UInt8) (e : Ending) : Prop :=
  ∃ g, e = .returned (.pointer (some ⟨g, 0, none⟩)) ∧ w.heap.size ≤ g ∧ RRd w' g l 0 0 ∧ Below w.heap.size w w' ∧ ∀ w2 k, w'.grownBy w2 (some k) → k < w.heap.size → RRd w2 g l 0 0
set_option maxRecDepth 100000 in
theorem pnew2_any (A : Option Addr) (n c : Nat) (l : List UInt8) (w : World) (hr : Reads w w.heap.size 1 A n (u8s l)) (hn : n ≤ 35184372088832) :
    Calls Try.prog 22 #[.slice A n c] w fun e w' => PNew w w' l e := by
  have Hcall := Lib.hid (clone_any A n c l w hr hn)
  unfold Copied at Hcall
  go_enter Try.func22, Try.ntmps22
  go_wp2_with fail
  with_reducible refine (Hcall.out).mono ?_
  rintro e w1 ⟨A1, c1, rfl, g1, g2, o1, hb1⟩
  have hs1 := hb1.size
  have hr1 := own_reads o1
  have Hlow := Lib.hid (show 0 < l.length → ∀ ad, A1 = some ad → w.heap.size ≤ ad.block ∧ ad.block < w1.heap.size from fun h0 ad hA => by
    obtain ⟨g, hA1, h1, h2, _⟩ := own_at o1 h0
    rw [hA] at hA1
    cases hA1
    exact ⟨h1, h2⟩)
  clear o1
  go_wp2
  go_ret
  have hB : Below w.heap.size w1 (w1.alloc (.cells #[.slice A1 l.length c1, .bool true, .int .i64 0, .int .i64 0] 67)) := ((Below.refl _ _).alloc (Nat.le_refl _) _).mono hs1
  refine ⟨_, rfl, hs1, ⟨Nat.zero_le _, A1, c1, Blk.new _ _ _, hr1.al _, fun h0 ad hA => (Hlow.out (by simpa using h0) ad hA).2, by simpa using g1, g2⟩, hb1.trans hB, fun w2 k hg hk => ?_⟩
  refine ⟨Nat.zero_le _, A1, c1, blk_grown (Blk.new _ _ _) hg (by omega), reads_grown (hr1.al _) hg (fun h0 ad hA => ?_), fun h0 ad hA => (Hlow.out (by simpa using h0) ad hA).2, by simpa using g1, g2⟩
  have := (Hlow.out (by simpa using h0) ad hA).1
  omega
set_option maxRecDepth 100000 in
theorem rnew2_any (A : Option Addr) (n c : Nat) (l : List UInt8) (w : World) (hr : Reads w w.heap.size 1 A n (u8s l)) (hn : n ≤ 35184372088832) :
    Calls Try.prog 23 #[.slice A n c] w fun e w' => RNew w w' l e := by
  have Hcall := Lib.hid (copyBytes_any A n c l w hr hn)
  have hnl := reads_len hr
  go_enter Try.func23, Try.ntmps23
  go_wp2_with fail
  with_reducible refine (Hcall.out).mono ?_
  rintro e w1 ⟨A1, c1, rfl, g1, g2, o1, hb1⟩
  have hs1 := hb1.size
  have hr1 := own_reads o1
  subst hnl
  have Hlow := Lib.hid (show 0 < l.length → ∀ ad, A1 = some ad → w.heap.size ≤ ad.block ∧ ad.block < w1.heap.size from fun h0 ad hA => by
    obtain ⟨g, hA1, h1, h2, _⟩ := own_at o1 h0
    rw [hA] at hA1
    cases hA1
    exact ⟨h1, h2⟩)
  clear o1
  go_wp2
  go_ret
  have hB : Below w.heap.size w1 (w1.alloc (.cells #[.slice A1 l.length c1, .int .i64 0, .int .i64 0] 56)) := ((Below.refl _ _).alloc (Nat.le_refl _) _).mono hs1
  refine ⟨_, rfl, hs1, ⟨Nat.zero_le _, A1, c1, Blk.new _ _ _, hr1.al _, fun h0 ad hA => (Hlow.out h0 ad hA).2, g1, g2⟩, hb1.trans hB, fun w2 k hg hk => ?_⟩
  refine ⟨Nat.zero_le _, A1, c1, blk_grown (Blk.new _ _ _) hg (by omega), reads_grown (hr1.al _) hg (fun h0 ad hA => ?_), fun h0 ad hA => (Hlow.out h0 ad hA).2, g1, g2⟩
  have := (Hlow.out h0 ad hA).1
  omega
set_option maxRecDepth 100000 in
set_option maxHeartbeats 1000000 in
theorem spoil2_any (A : Option Addr) (n c base : Nat) (l : List UInt8) (w : World) (ho : w.ownsRow base 5 1 (.slice A n c) n (u8s l)) (hn : n ≤ 1099511627776) :
    Calls Try.prog 19 #[.slice A n c] w fun e w' => e = .returned (.tuple #[]) ∧ (w' = w ∨ ∃ k, (Value.slice A n c).ownBlock = some k ∧ w.grownBy w' (some k)) := by
  rcases Nat.eq_zero_or_pos n with h0 | h0
  · subst h0
    go_enter Try.func19, Try.ntmps19
    clear ho
    go_wp2
    go_loopw [2] (fun i wr => i = .int .i64 0 ∧ wr = w) (fun i _ => 0)
    case atStart => exact ⟨rfl, rfl⟩
    case round =>
      obtain ⟨rfl, rfl⟩ := hrel
      go_wp2
      go_end0
      exact ⟨rfl, .inl rfl⟩
  · obtain ⟨k0, rfl, hk1, hk2, _⟩ := own_at ho h0
    go_enter Try.func19, Try.ntmps19
    go_wp2
    go_loopw [2] (fun i wr => ∃ (k : Nat) (xs : List UInt8), k ≤ n ∧ i = .int .i64 (k : Int) ∧ wr.ownsRow base 5 1 (.slice (some ⟨k0, 0, none⟩) n c) n (u8s xs) ∧ w.grownBy wr (some k0)) (fun i _ => n - (intOf i).toNat)
    case atStart => exact ⟨0, l, Nat.zero_le _, rfl, ho, below_grown (Below.refl _ _)⟩
    case round =>
      clear ho
      obtain ⟨k, xs, hk, rfl, hown, hB⟩ := hrel
      by_cases hlt : k < n
      · obtain ⟨g, hgg, hg, hg2, hcell, hfz⟩ := own_at hown (by omega)
        cases hgg
        have hzl : xs.length = n := by have := hown.1; simpa using this
        obtain ⟨z, hz1⟩ : ∃ z, xs[k]? = some z := ⟨_, List.getElem?_eq_getElem (by omega)⟩
        have hck := hcell k (.int .u8 (z.toNat : Int)) (by simp [u8s, hz1])
        have hfk := hfz k
        have Hown := Lib.hid hown
        have hz256 : z.toNat < 256 := z.toNat_lt
        have HB := Lib.hid hB
        clear hcell hfz hown hzl hz1 hB
        go_wp2
        have ho2 := own_set Hown.out k hlt (.int .u8 ((UInt8.ofNat (z.toNat ^^^ 165)).toNat : Int))
        have hB2 := HB.out.trans (grown_set3 wr k0 k (.int .u8 ((UInt8.ofNat (z.toNat ^^^ 165)).toNat : Int)))
        rw [u8s_set] at ho2
        rw [xor_165 z]
        go_roundw
        case rel => exact ⟨k + 1, _, by omega, by go_num, ho2, hB2⟩
        case measure => simp [intOf]; omega
      · have HB := Lib.hid hB
        clear hB
        go_wp2
        go_end0
        exact ⟨rfl, .inr ⟨k0, rfl, HB.out⟩⟩
end Go.Proofs.Ytnkkhplddjopnaa
