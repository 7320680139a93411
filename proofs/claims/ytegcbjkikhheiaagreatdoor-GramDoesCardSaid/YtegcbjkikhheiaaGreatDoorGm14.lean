/- Part 14 of the walks, merged: each text under its own heading. Conditions: none of its own; each lemma states what it asks. -/
import Derived.Test.YtegcbjkikhheiaaGreatDoorGm13
import Derived.Deep.Fields
import Derived.Lib.LaidIn
import Derived.Lib.LaidU8T
import GoSem.PinnedTables
import Derived.Lib.ConvBytes
import Derived.WalkMore
set_option linter.unusedVariables false
set_option linter.unusedSimpArgs false
namespace Go.Proofs.YtegcbjkikhheiaaGreatDoor
open Go.RowKit
def coV (c : Co) : List Value := [.int .i64 c.1, .string c.2.1, .int .i64 c.2.2.1, .bool c.2.2.2.1, .bool c.2.2.2.2.1, .int .i64 c.2.2.2.2.2.1, .string c.2.2.2.2.2.2]
def cos (l : List Co) : List Value := l.flatMap coV
theorem cos_length (l : List Co) : (cos l).length = 7 * l.length := by
  rw [cos, flatMap_length _ 7 (fun _ => rfl)]
  omega
theorem cos_len {w : World} {B n : Nat} {A : Option Addr} {l : List Co} (h : Reads w B 7 A n (cos l)) : l.length = n := by
  have := h.1
  rw [cos_length] at this
  omega
theorem cos_one (l : List Co) : ∀ u ∈ cos l, u.oneCell' = true := by
  intro u hu
  obtain ⟨c, -, hc⟩ := List.mem_flatMap.1 hu
  simp [coV] at hc
  rcases hc with rfl | rfl | rfl | rfl | rfl | rfl | rfl <;> rfl
structure CoAt (w : World) (p : Addr) (c : Co) : Prop where
  c0 : w.cell? p = some (.int .i64 c.1)
  c1 : w.cell? ⟨p.block, p.off + 1, none⟩ = some (.string c.2.1)
  c2 : w.cell? ⟨p.block, p.off + 2, none⟩ = some (.int .i64 c.2.2.1)
  c3 : w.cell? ⟨p.block, p.off + 3, none⟩ = some (.bool c.2.2.2.1)
  c4 : w.cell? ⟨p.block, p.off + 4, none⟩ = some (.bool c.2.2.2.2.1)
  c5 : w.cell? ⟨p.block, p.off + 5, none⟩ = some (.int .i64 c.2.2.2.2.2.1)
  c6 : w.cell? ⟨p.block, p.off + 6, none⟩ = some (.string c.2.2.2.2.2.2)
theorem cos_at {w : World} {B n k : Nat} {A : Option Addr} {l : List Co} (h : Reads w B 7 A n (cos l)) (hk : k < n) : ∃ ad c, A = some ad ∧ ad.block < B ∧ l[k]? = some c ∧ CoAt w (ad.add (k * 7)) c := by
  have hl := cos_len h
  obtain ⟨ad, e, hb, hc⟩ := h.2 (by omega)
  have key : ∀ j v, (coV l[k])[j]? = some v → w.cell? ((ad.add (k * 7)).add j) = some v := fun j v hv => by
    have hj : j < 7 := (List.getElem?_eq_some_iff.1 hv).1
    rw [add_of_add]
    exact hc _ _ (by rw [cos, flatMap_at _ 7 (fun _ => rfl) l k j l[k] (List.getElem?_eq_getElem (by omega)) hj]; exact hv)
  refine ⟨ad, l[k], e, hb, List.getElem?_eq_getElem (by omega), ?_, ?_, ?_, ?_, ?_, ?_, ?_⟩
  · have := key 0 _ rfl
    rwa [addc_zero] at this
  · have := key 1 _ rfl
    rwa [addc_pos _ _ (by decide)] at this
  · have := key 2 _ rfl
    rwa [addc_pos _ _ (by decide)] at this
  · have := key 3 _ rfl
    rwa [addc_pos _ _ (by decide)] at this
  · have := key 4 _ rfl
    rwa [addc_pos _ _ (by decide)] at this
  · have := key 5 _ rfl
    rwa [addc_pos _ _ (by decide)] at this
  · have := key 6 _ rfl
    rwa [addc_pos _ _ (by decide)] at this
theorem CoAt.on {w w' : World} {p : Addr} {c : Co} {B : Nat} (h : CoAt w p c) (hb : Below B w w') (hp : p.block < B) : CoAt w' p c :=
  ⟨(hb.cell hp).trans h.c0, (hb.cell (p := ⟨p.block, p.off + 1, none⟩) hp).trans h.c1, (hb.cell (p := ⟨p.block, p.off + 2, none⟩) hp).trans h.c2, (hb.cell (p := ⟨p.block, p.off + 3, none⟩) hp).trans h.c3,
   (hb.cell (p := ⟨p.block, p.off + 4, none⟩) hp).trans h.c4, (hb.cell (p := ⟨p.block, p.off + 5, none⟩) hp).trans h.c5, (hb.cell (p := ⟨p.block, p.off + 6, none⟩) hp).trans h.c6⟩
abbrev Hd := Option Addr × Nat × Nat
def itV (h : Hd) (it : It) : List Value := [.slice h.1 h.2.1 h.2.2, .int .i64 it.2]
def its (hs : List Hd) (l : List It) : List Value := (hs.zip l).flatMap fun p => itV p.1 p.2
theorem its_length (hs : List Hd) (l : List It) (h : hs.length = l.length) : (its hs l).length = 2 * l.length := by
  rw [its, flatMap_length _ 2 (fun _ => rfl), List.length_zip]
  omega
def RowsAt (w : World) (B : Nat) (hs : List Hd) (l : List It) : Prop := hs.length = l.length ∧ ∀ (j : Nat) h it, hs[j]? = some h → l[j]? = some it → Reads w B 3 h.1 h.2.1 (cls it.1) ∧ h.2.1 ≤ h.2.2 ∧ h.2.2 ≤ maxLen
def ItemsAt (w : World) (B : Nat) (A : Option Addr) (n : Nat) (l : List It) : Prop := ∃ hs, Reads w B 2 A n (its hs l) ∧ RowsAt w B hs l
section
variable {w w' : World} {B B' n : Nat} {A : Option Addr} {hs : List Hd} {l : List It}
theorem RowsAt.below (h : RowsAt w B hs l) (hb : Below B w w') : RowsAt w' B hs l := ⟨h.1, fun j g it h1 h2 => ⟨(h.2 j g it h1 h2).1.below hb, (h.2 j g it h1 h2).2⟩⟩
theorem RowsAt.more (h : RowsAt w B hs l) (hB : B ≤ B') : RowsAt w B' hs l := ⟨h.1, fun j g it h1 h2 => ⟨(h.2 j g it h1 h2).1.more hB, (h.2 j g it h1 h2).2⟩⟩
theorem RowsAt.on (h : RowsAt w w.heap.size hs l) (hb : Below w.heap.size w w') : RowsAt w' w'.heap.size hs l := (h.below hb).more hb.size
theorem RowsAt.al (h : RowsAt w w.heap.size hs l) (o : Obj) : RowsAt (w.alloc o) (w.alloc o).heap.size hs l := h.on (bal (Below.refl _ _) o)
theorem RowsAt.nil : RowsAt w B [] [] := ⟨rfl, fun j g it h => by simp at h⟩
theorem RowsAt.snoc {h : Hd} {it : It} (h0 : RowsAt w B hs l) (h1 : Reads w B 3 h.1 h.2.1 (cls it.1)) (h2 : h.2.1 ≤ h.2.2) (h3 : h.2.2 ≤ maxLen) : RowsAt w B (hs ++ [h]) (l ++ [it]) := by
  refine ⟨by simp [h0.1], fun j g jt g1 g2 => ?_⟩
  rcases Nat.lt_or_ge j hs.length with hj | hj
  · rw [List.getElem?_append_left hj] at g1
    rw [List.getElem?_append_left (by rw [← h0.1]; exact hj)] at g2
    exact h0.2 j g jt g1 g2
  · rw [List.getElem?_append_right hj] at g1
    rw [List.getElem?_append_right (by rw [← h0.1]; exact hj), ← h0.1] at g2
    obtain ⟨h4, h5⟩ : j - hs.length = 0 ∧ True := ⟨by have := (List.getElem?_eq_some_iff.1 g1).1; simp at this; omega, trivial⟩
    rw [h4] at g1 g2
    simp only [List.getElem?_cons_zero, Option.some.injEq] at g1 g2
    subst g1 g2
    exact ⟨h1, h2, h3⟩
theorem RowsAt.take (h : RowsAt w B hs l) (k : Nat) : RowsAt w B (hs.take k) (l.take k) := by
  refine ⟨by simp [h.1], fun j g it g1 g2 => ?_⟩
  rw [List.getElem?_take] at g1 g2
  split at g1
  · rename_i hk
    rw [if_pos hk] at g2
    exact h.2 j g it g1 g2
  · cases g1
theorem its_take (hl : hs.length = l.length) (k : Nat) : (its hs l).take (k * 2) = its (hs.take k) (l.take k) := by
  induction k generalizing hs l with
  | zero => simp [its]
  | succ k ih =>
    cases hs with
    | nil => simp [its]
    | cons h hs =>
      cases l with
      | nil => simp at hl
      | cons it l =>
        have := ih (hs := hs) (l := l) (by simpa using hl)
        have e1 : its (h :: hs) (it :: l) = itV h it ++ its hs l := rfl
        have e2 : its ((h :: hs).take (k + 1)) ((it :: l).take (k + 1)) = itV h it ++ its (hs.take k) (l.take k) := rfl
        have e3 : (itV h it).length = 2 := rfl
        rw [e1, e2, ← this, show (k + 1) * 2 = (itV h it).length + k * 2 by rw [e3]; omega, List.take_append, List.take_of_length_le (by omega), Nat.add_sub_cancel_left]
theorem its_snoc (hl : hs.length = l.length) (h : Hd) (it : It) : its (hs ++ [h]) (l ++ [it]) = its hs l ++ itV h it := by
  unfold its
  rw [List.zip_append hl]
  simp
theorem ItemsAt.len (h : ItemsAt w B A n l) : l.length = n := by
  obtain ⟨hs, h1, h2⟩ := h
  have := h1.1
  rw [its_length hs l h2.1] at this
  omega
theorem ItemsAt.below (h : ItemsAt w B A n l) (hb : Below B w w') : ItemsAt w' B A n l := by
  obtain ⟨hs, h1, h2⟩ := h
  exact ⟨hs, h1.below hb, h2.below hb⟩
theorem ItemsAt.more (h : ItemsAt w B A n l) (hB : B ≤ B') : ItemsAt w B' A n l := by
  obtain ⟨hs, h1, h2⟩ := h
  exact ⟨hs, h1.more hB, h2.more hB⟩
theorem ItemsAt.on (h : ItemsAt w w.heap.size A n l) (hb : Below w.heap.size w w') : ItemsAt w' w'.heap.size A n l := (h.below hb).more hb.size
theorem ItemsAt.al (h : ItemsAt w w.heap.size A n l) (o : Obj) : ItemsAt (w.alloc o) (w.alloc o).heap.size A n l := h.on (bal (Below.refl _ _) o)
theorem ItemsAt.drew (h : ItemsAt w B A n l) : ItemsAt w.drew B A n l := h
theorem ItemsAt.nil : ItemsAt w B none 0 [] := ⟨[], Reads.none_, RowsAt.nil⟩
theorem ItemsAt.head (h : ItemsAt w B A n l) {k : Nat} (hk : k ≤ n) : ItemsAt w B A k (l.take k) := by
  obtain ⟨hs, h1, h2⟩ := h
  have := h1.head hk
  rw [its_take h2.1] at this
  exact ⟨hs.take k, this, h2.take k⟩
theorem ItemsAt.at_ {k : Nat} (h : ItemsAt w B A n l) (hk : k < n) : ∃ ad A' c' it, A = some ad ∧ ad.block < B ∧ l[k]? = some it ∧ w.cell? (ad.add (k * 2)) = some (.slice A' it.1.length c') ∧
    w.cell? ⟨(ad.add (k * 2)).block, (ad.add (k * 2)).off + 1, none⟩ = some (.int .i64 it.2) ∧ Reads w B 3 A' it.1.length (cls it.1) ∧ it.1.length ≤ c' ∧ c' ≤ maxLen := by
  have hl := h.len
  obtain ⟨hs, h1, h2⟩ := h
  obtain ⟨ad, e, hb, hc⟩ := h1.2 (by omega)
  have hkh : k < hs.length := by rw [h2.1]; omega
  have hit := List.getElem?_eq_getElem (l := l) (i := k) (by omega)
  have hhd := List.getElem?_eq_getElem hkh
  obtain ⟨g1, g2, g3⟩ := h2.2 k _ _ hhd hit
  have hln := cls_len g1
  have key : ∀ j v, (itV hs[k] l[k])[j]? = some v → w.cell? ((ad.add (k * 2)).add j) = some v := fun j v hv => by
    have hj : j < 2 := (List.getElem?_eq_some_iff.1 hv).1
    rw [add_of_add]
    refine hc _ _ ?_
    rw [its, flatMap_at _ 2 (fun _ => rfl) (hs.zip l) k j (hs[k], l[k]) (by rw [List.getElem?_zip_eq_some]; exact ⟨hhd, hit⟩) hj]
    exact hv
  refine ⟨ad, hs[k].1, hs[k].2.2, l[k], e, hb, hit, ?_, ?_, by rw [hln]; exact g1, by rw [hln]; exact g2, g3⟩
  · have := key 0 _ rfl
    rw [addc_zero] at this
    rw [hln]
    exact this
  · have := key 1 _ rfl
    rwa [addc_pos _ _ (by decide)] at this
end
def ItOk (l : List It) : Prop := ∀ it ∈ l, ClOk it.1 ∧ -9223372036854775808 ≤ it.2 ∧ it.2 ≤ 9223372036854775807
theorem ItOk.take {l : List It} (h : ItOk l) (k : Nat) : ItOk (l.take k) := fun it hit => h it (List.mem_of_mem_take hit)
end Go.Proofs.YtegcbjkikhheiaaGreatDoor
namespace Go.Proofs.YtegcbjkikhheiaaGreatDoor
open Go.RowKit
def Emit (J Jx : List UInt8 → World → Prop) (base B : Nat) (pre bs : List UInt8) (w : World) (e : Ending) (w' : World) : Prop :=
  ((e = .returned (.bool true) ∧ J (pre ++ bs) w') ∨ (e = .returned (.bool false) ∧ ∃ q, q <+: bs ∧ Jx (pre ++ q) w')) ∧ Mid base B w w'
structure YOk (f : FuncId) (caps : Array Value) (J Jx : List UInt8 → World → Prop) (base B : Nat) : Prop where
  le : base ≤ B
  stJ : ∀ s A A', J s A → Below B A A' → J s A'
  stX : ∀ s A A', Jx s A → Below B A A' → Jx s A'
  big : ∀ s A, J s A → B ≤ A.heap.size
  call : ∀ pre (c : UInt8) W, J pre W → Calls Tryz.prog f (#[.int .u8 (c.toNat : Int)] ++ caps) W (Emit J Jx base B pre [c] W)
  ent : ∀ args w, (callFunc f args).run Tryz.prog w = .ok (.enter f args) w
section
variable {J Jx : List UInt8 → World → Prop} {base B : Nat} {pre bs bs2 : List UInt8} {w w1 w2 : World} {e : Ending} {f : FuncId} {caps : Array Value}
theorem Emit.yes (h : J (pre ++ bs) w1) (hm : Mid base B w w1) : Emit J Jx base B pre bs w (.returned (.bool true)) w1 := ⟨.inl ⟨rfl, h⟩, hm⟩
theorem Emit.no {q : List UInt8} (hq : q <+: bs) (h : Jx (pre ++ q) w1) (hm : Mid base B w w1) : Emit J Jx base B pre bs w (.returned (.bool false)) w1 := ⟨.inr ⟨rfl, q, hq, h⟩, hm⟩
theorem Emit.none_ (h : J pre w1) (hm : Mid base B w w1) : Emit J Jx base B pre [] w (.returned (.bool true)) w1 := .yes (by rw [List.append_nil]; exact h) hm
theorem Emit.after (hm : Mid base B w w1) (h : Emit J Jx base B (pre ++ bs) bs2 w1 e w2) : Emit J Jx base B pre (bs ++ bs2) w e w2 := by
  obtain ⟨h1 | ⟨h1, q, hq, hx⟩, h2⟩ := h
  · exact ⟨.inl ⟨h1.1, by rw [← List.append_assoc]; exact h1.2⟩, hm.trans h2⟩
  · exact ⟨.inr ⟨h1, bs ++ q, (List.prefix_append_right_inj bs).2 hq, by rw [← List.append_assoc]; exact hx⟩, hm.trans h2⟩
theorem Emit.stop (hm0 : Mid base B w w1) {q : List UInt8} (hq : q <+: bs) (hx : Jx (pre ++ q) w2) (hm : Mid base B w1 w2) : Emit J Jx base B pre (bs ++ bs2) w (.returned (.bool false)) w2 :=
  .no (hq.trans (List.prefix_append _ _)) hx (hm0.trans hm)
theorem Emit.ahead (hm : Mid base B w w1) (h : Emit J Jx base B pre bs w1 e w2) : Emit J Jx base B pre bs w e w2 := ⟨h.1, hm.trans h.2⟩
theorem Emit.on (hy : YOk f caps J Jx base B) (h : Emit J Jx base B pre bs w e w1) (hb : Below w1.heap.size w1 w2) (hB : B ≤ w1.heap.size) : Emit J Jx base B pre bs w e w2 := by
  obtain ⟨h1 | ⟨h1, q, hq, hx⟩, h2⟩ := h
  · exact ⟨.inl ⟨h1.1, hy.stJ _ _ _ h1.2 (hb.mono hB)⟩, h2.trans (Mid.of_below hb)⟩
  · exact ⟨.inr ⟨h1, q, hq, hy.stX _ _ _ hx (hb.mono hB)⟩, h2.trans (Mid.of_below hb)⟩
theorem YOk.onJ (hy : YOk f caps J Jx base B) (h : J pre w) (hb : Below w.heap.size w w1) : J pre w1 := hy.stJ _ _ _ h (hb.mono (hy.big _ _ h))
theorem YOk.alJ (hy : YOk f caps J Jx base B) (h : J pre w) (o : Obj) : J pre (w.alloc o) := hy.onJ h ((Below.refl _ _).alloc (Nat.le_refl _) o)
theorem Reads.mid0 {size n : Nat} {A : Option Addr} {xs : List Value} (h : Reads w base size A n xs) (hb : Mid base B w w1) (hB : base ≤ w.heap.size) : Reads w1 base size A n xs := h.below (hb.below hB)
theorem Blk.mid {g : Nat} {t : TypeId} {cs : Array Value} (h : Blk w g t cs) (hb : Mid base B w w1) (hg : B ≤ g) : Blk w1 g t cs := (hb.block g h.lt (.inr hg)).trans h
theorem Blk.mid0 {g : Nat} {t : TypeId} {cs : Array Value} (h : Blk w g t cs) (hb : Mid base B w w1) (hg : g < base) : Blk w1 g t cs := (hb.block g h.lt (.inl hg)).trans h
theorem own_mid {b2 : Nat} {t : TypeId} {size n : Nat} {v : Value} {xs : List Value} (h : w.ownsRow b2 t size v n xs) (hb : Mid base B w w1) (hB : B ≤ b2) : w1.ownsRow b2 t size v n xs := by
  obtain ⟨hl, ⟨rfl, rfl⟩ | ⟨g, cap, cur, rfl, h1, h2, h3⟩⟩ := h
  · exact ⟨hl, .inl ⟨rfl, rfl⟩⟩
  · refine ⟨hl, .inr ⟨g, cap, cur, rfl, h1, ?_, h3⟩⟩
    have hg : g < w.heap.size := (Array.getElem?_eq_some_iff.1 h2).1
    exact (hb.block g hg (.inr (Nat.le_trans hB h1))).trans h2
end
end Go.Proofs.YtegcbjkikhheiaaGreatDoor
namespace Go.Proofs.YtegcbjkikhheiaaGreatDoor
def lcp : List UInt8 → List UInt8 → Nat
  | a :: us, b :: bs => if a = b then lcp us bs + 1 else 0
  | _, _ => 0
theorem lcp_le : ∀ a b : List UInt8, lcp a b ≤ a.length ∧ lcp a b ≤ b.length
  | [], b => by simp [lcp]
  | a :: us, [] => by simp [lcp]
  | a :: us, b :: bs => by
    have := lcp_le us bs
    unfold lcp
    split
    · simp only [List.length_cons]; omega
    · simp
theorem lcp_self : ∀ a : List UInt8, lcp a a = a.length
  | [] => rfl
  | a :: us => by simp [lcp, lcp_self us]
theorem lcp_take : ∀ (a b : List UInt8), a.take (lcp a b) = b.take (lcp a b)
  | [], b => by simp [lcp]
  | a :: us, [] => by simp [lcp]
  | a :: us, b :: bs => by
    unfold lcp
    split
    · rename_i h
      subst h
      simp [lcp_take us bs]
    · simp
theorem lcp_next : ∀ (a b : List UInt8) (x y : UInt8), a[lcp a b]? = some x → b[lcp a b]? = some y → x ≠ y
  | [], b, x, y => by simp
  | a :: us, [], x, y => by simp
  | a :: us, b :: bs, x, y => by
    unfold lcp
    split
    · simpa using lcp_next us bs x y
    · rename_i h
      intro h1 h2
      simp at h1 h2
      subst h1 h2
      exact h
theorem lcp_of : ∀ (a b : List UInt8) (n : Nat), a.take n = b.take n → n ≤ a.length → n ≤ b.length → (∀ x y, a[n]? = some x → b[n]? = some y → x ≠ y) → lcp a b = n
  | [], b, n, _, h, _, _ => by simp at h; subst h; rfl
  | a :: us, [], n, _, _, h, _ => by simp at h; subst h; rfl
  | a :: us, b :: bs, 0, _, _, _, h => by
    have := h a b rfl rfl
    simp [lcp, this]
  | a :: us, b :: bs, n + 1, h, h1, h2, h3 => by
    simp only [List.take_succ_cons, List.cons.injEq] at h
    obtain ⟨rfl, h⟩ := h
    unfold lcp
    rw [if_pos rfl, lcp_of us bs n h (by simpa using h1) (by simpa using h2) (by simpa using h3)]
theorem lcp_full {a b : List UInt8} (h : lcp a b = b.length) (hl : a.length = b.length) : a = b := by
  have := lcp_take a b
  rwa [h, List.take_of_length_le (by omega), List.take_of_length_le (by omega)] at this
theorem lcp_turned (a : List UInt8) (i : Nat) (c : UInt8) (hi : i < a.length) (hc : a[i]? ≠ some c) : lcp a (a.set i c) = i ∧ lcp a ((a.set i c).take i) = i := by
  constructor
  · refine lcp_of _ _ i ?_ (by omega) (by simp; omega) ?_
    · rw [List.take_set_of_le (Nat.le_refl _)]
    · intro x y hx hy e
      subst e
      rw [List.getElem?_set_self hi] at hy
      cases hy
      exact hc hx
  · rw [List.take_set_of_le (Nat.le_refl _)]
    refine lcp_of _ _ i ?_ (by omega) (by simp; omega) ?_
    · rw [List.take_take, Nat.min_self]
    · intro x y hx hy
      rw [List.getElem?_take, if_neg (by omega)] at hy
      cases hy
theorem need_mono {a b : Nat} (h : a ≤ b) : need a ≤ need b := by unfold need; omega
theorem putD_more (l : List ByteArray) (s : ByteArray) : (putD l).length ≤ (putD (l ++ [s])).length := by
  unfold putD
  rw [splitL_snoc]
  unfold splitStep
  split
  · simp
  · have h := leb_mono (splitL l).1.length ((splitL l).1.length + (0 + 1)) (by omega)
    simp only [List.length_append, List.flatMap_append, List.length_cons, List.length_nil]
    omega
theorem bareB_more (k : Int) (l : List Cl) (c : Cl) : (bareB k l).length ≤ (bareB k (l ++ [c])).length := by
  unfold bareB
  split
  · rw [packL_length, packL_length]
    exact need_mono (by simp)
  · split
    · rw [List.map_append]
      exact putD_more _ _
    · split
      · simp [rawsB]
      · simp [intsB]
theorem putB_more (k : Int) (nl : Bool) (l : List Cl) (c : Cl) : (putB k nl l []).length ≤ (putB k nl (l ++ [c]) []).length := by
  unfold putB someC
  have h1 : ((if nl then packL (l.map fun c => !c.1) else [] : List UInt8)).length ≤ ((if nl then packL ((l ++ [c]).map fun c => !c.1) else [] : List UInt8)).length := by
    split
    · rw [packL_length, packL_length]
      exact need_mono (by simp)
    · exact Nat.le_refl _
  have h2 : (bareB k (l.filter fun c => !c.1)).length ≤ (bareB k ((l ++ [c]).filter fun c => !c.1)).length := by
    rw [List.filter_append]
    simp only [List.filter_cons, List.filter_nil]
    split
    · exact bareB_more _ _ _
    · simp
  simp only [List.nil_append, List.length_append] at h1 h2 ⊢
  omega
theorem colsB_more (cs : List Co) (l : List It) (it : It) (j : Nat) : (colsB cs l j).length ≤ (colsB cs (l ++ [it]) j).length := by
  induction j with
  | zero => simp [colsB]
  | succ j ih =>
    rw [colsB_succ, colsB_succ, List.length_append, List.length_append]
    refine Nat.add_le_add ih ?_
    unfold colB
    split
    · unfold colC
      rw [List.map_append]
      exact putB_more _ _ _ _
    · exact Nat.le_refl _
theorem encA_more (cs : List Co) (v s : Int) (l : List It) (it : It) : (encA cs (v, s, l)).length < (encA cs (v, s, l ++ [it])).length := by
  rw [encA_len, encA_len]
  unfold bodyB headB wsB
  have h1 := colsB_more cs l it cs.length
  have h2 := leb_mono l.length (l ++ [it]).length (by simp)
  have h3 := leb_pos (zig it.2)
  simp only [List.length_append, List.flatMap_append, List.flatMap_cons, List.flatMap_nil, List.append_nil] at h1 h2 ⊢
  omega
end Go.Proofs.YtegcbjkikhheiaaGreatDoor
namespace Go.Proofs.YtegcbjkikhheiaaGreatDoor
theorem lcp_stuck : ∀ (bs xs cs : List UInt8), lcp bs xs < bs.length → lcp (bs ++ cs) xs = lcp bs xs
  | [], xs, cs, h => by simp at h
  | b :: bs, [], cs, _ => rfl
  | b :: bs, x :: xs, cs, h => by
    rw [List.cons_append]
    unfold lcp at h ⊢
    split
    · rename_i e
      rw [if_pos e, List.length_cons] at h
      rw [lcp_stuck bs xs cs (by omega)]
    · rfl
theorem lcp_whole : ∀ (bs xs : List UInt8) (c : UInt8), lcp bs xs = bs.length → lcp (bs ++ [c]) xs = if xs[bs.length]? = some c then bs.length + 1 else bs.length
  | [], [], c, _ => rfl
  | [], x :: xs, c, _ => by
    simp only [List.nil_append, List.length_nil, List.getElem?_cons_zero, Option.some.injEq]
    unfold lcp
    by_cases e : c = x
    · rw [if_pos e, if_pos e.symm]; rfl
    · rw [if_neg e, if_neg (fun h => e h.symm)]
  | b :: bs, [], c, h => by simp [lcp] at h
  | b :: bs, x :: xs, c, h => by
    rw [List.cons_append]
    unfold lcp at h ⊢
    split at h
    · rename_i e
      rw [List.length_cons] at h
      rw [if_pos e, lcp_whole bs xs c (by omega), List.length_cons, List.getElem?_cons_succ]
      split <;> rfl
    · simp at h
theorem lcp_le1 (bs xs : List UInt8) : lcp bs xs ≤ bs.length := (lcp_le bs xs).1
theorem lcp_le2 (bs xs : List UInt8) : lcp bs xs ≤ xs.length := (lcp_le bs xs).2
theorem packL_nil : packL [] = [] := rfl
theorem packL_chunk (l : List Bool) (h : l ≠ []) : packL l = UInt8.ofNat (byteOf (l.take 8)) :: packL (l.drop 8) := by
  have hl : 0 < l.length := List.length_pos_iff.2 h
  have hn : Go.Proofs.YtegcbjkikhheiaaGreatDoor.need l.length = Go.Proofs.YtegcbjkikhheiaaGreatDoor.need (l.drop 8).length + 1 := by
    rw [List.length_drop]
    unfold Go.Proofs.YtegcbjkikhheiaaGreatDoor.need
    omega
  unfold packL
  rw [hn, packF]
theorem byteOf_step (l : List Bool) (i : Nat) (b : Bool) (h : l[i]? = some b) : byteOf (l.take (i + 1)) = byteOf (l.take i) + if b then 2 ^ i else 0 := by
  have hi := (List.getElem?_eq_some_iff.1 h).1
  rw [take_next l i b h, byteOf_append, List.length_take, Nat.min_eq_left (by omega)]
  cases b <;> simp [byteOf]
theorem byteOf_lt_take (l : List Bool) (i : Nat) : byteOf (l.take i) < 2 ^ i := by
  have h1 := byteOf_lt (l.take i)
  have h2 : 2 ^ (l.take i).length ≤ 2 ^ i := Nat.pow_le_pow_right (by omega) (List.length_take_le _ _)
  omega
def dct (l : List ByteArray) : List ByteArray := (splitL l).1
theorem placeL_mem {d : List ByteArray} {s : ByteArray} : (∃ k, placeL d s = some k) ↔ s ∈ d := by
  constructor
  · rintro ⟨k, h⟩
    exact List.mem_of_getElem? (placeL_some d s k h)
  · intro h
    rcases hp : placeL d s with _ | k
    · exact absurd h ((placeL_none d s).1 hp)
    · exact ⟨k, rfl⟩
theorem step_mem (st : List ByteArray × List Nat) (x s : ByteArray) : s ∈ (splitStep st x).1 ↔ s ∈ st.1 ∨ s = x := by
  unfold splitStep
  split
  · rename_i k hk
    have := placeL_mem.1 ⟨k, hk⟩
    constructor
    · exact .inl
    · rintro (h | rfl)
      · exact h
      · exact this
  · simp
theorem fold_mem (s : ByteArray) : ∀ (l : List ByteArray) (st : List ByteArray × List Nat), s ∈ (l.foldl splitStep st).1 ↔ s ∈ st.1 ∨ s ∈ l
  | [], st => by simp
  | x :: l, st => by
    rw [List.foldl_cons, fold_mem s l, step_mem, List.mem_cons, or_assoc]
theorem dct_mem (l : List ByteArray) (s : ByteArray) : s ∈ dct l ↔ s ∈ l := by
  unfold dct splitL
  rw [fold_mem]
  simp
theorem dct_in {l : List ByteArray} {s : ByteArray} (h : s ∈ l) : dct (l ++ [s]) = dct l := by
  unfold dct
  rw [splitL_snoc]
  unfold splitStep
  split
  · rfl
  · rename_i hk
    exact absurd ((dct_mem l s).2 h) ((placeL_none _ s).1 hk)
theorem dct_out {l : List ByteArray} {s : ByteArray} (h : s ∉ l) : dct (l ++ [s]) = dct l ++ [s] := by
  unfold dct
  rw [splitL_snoc]
  unfold splitStep
  split
  · rename_i k hk
    exact absurd ((dct_mem l s).1 (placeL_mem.1 ⟨k, hk⟩)) h
  · rfl
theorem dct_take_in {l : List ByteArray} {k : Nat} {s : ByteArray} (h : l[k]? = some s) (hs : s ∈ l.take k) : dct (l.take (k + 1)) = dct (l.take k) := by
  rw [List.take_add_one, h]
  exact dct_in hs
theorem dct_take_out {l : List ByteArray} {k : Nat} {s : ByteArray} (h : l[k]? = some s) (hs : s ∉ l.take k) : dct (l.take (k + 1)) = dct (l.take k) ++ [s] := by
  rw [List.take_add_one, h]
  exact dct_out hs
def numOf (d : List ByteArray) (s : ByteArray) : Nat := (placeL d s).getD 0
theorem split_nums (l : List ByteArray) : (splitL l).2 = l.map (numOf (dct l)) := by
  obtain ⟨h1, -, h3⟩ := splitL_used l
  refine List.ext_getElem (by simp [(splitL_len l).2]) fun i a b => ?_
  have hl : i < l.length := by simpa using b
  have h4 := congrArg (fun q => q[i]?) h3
  simp only [List.getElem?_map, List.getElem?_eq_getElem a, List.getElem?_eq_getElem hl, Option.map_some, Option.some.injEq] at h4
  rw [List.getElem_map]
  unfold numOf dct
  rw [placeL_nodup _ _ _ h1 h4]
  rfl
theorem putD_eq (l : List ByteArray) : putD l = leb (dct l).length ++ ((dct l).flatMap putText ++ l.flatMap fun s => leb (numOf (dct l) s)) := by
  unfold putD
  rw [split_nums, List.append_assoc, List.flatMap_map]
  rfl
theorem numOf_lt (l : List ByteArray) (s : ByteArray) (hs : s ∈ l) : numOf (dct l) s < (dct l).length := by
  obtain ⟨k, hk⟩ := placeL_mem.2 ((dct_mem l s).2 hs)
  have := (List.getElem?_eq_some_iff.1 (placeL_some _ _ _ hk)).1
  unfold numOf
  rw [hk]
  exact this
end Go.Proofs.YtegcbjkikhheiaaGreatDoor
namespace Go.Proofs.YtegcbjkikhheiaaGreatDoor
open Go.RowKit
set_option maxRecDepth 100000 in
set_option maxHeartbeats 400000 in
theorem bring_any (i n : Int) (w : World) (h1 : -9223372036854775808 ≤ i) (h2 : i ≤ 9223372036854775807) (hn : 0 < n) (hn2 : n ≤ 9223372036854775807) :
    Calls Tryz.prog 31 #[.int .i64 i, .int .i64 n] w fun e w' => e = .returned (.int .i64 (i % n)) ∧ w = w' := by
  have hb := Int.emod_nonneg i (by omega : n ≠ 0)
  have hlt := Int.emod_lt_of_pos i hn
  have ht : i.tmod n = i % n ∨ (i.tmod n < 0 ∧ i.tmod n + n = i % n) := by
    rw [Int.tmod_eq_emod]
    split
    · left; omega
    · rename_i h
      rw [Int.natAbs_of_nonneg (by omega)]
      right; omega
  have hz : ¬ n = 0 := by omega
  have hm1 : -9223372036854775808 ≤ i.tmod n ∧ i.tmod n ≤ 9223372036854775807 := by rcases ht with h | ⟨h, h'⟩ <;> omega
  rcases ht with h | ⟨h, h'⟩
  · have h0 : 0 ≤ i.tmod n := by omega
    have H := Lib.hid h
    clear h
    go_enter Tryz.func31, Tryz.ntmps31
    go_wp2
    go_ret
    exact ⟨congrArg (fun x => Ending.returned (.int .i64 x)) H.out, rfl⟩
  · have H := Lib.hid h'
    clear h'
    go_enter Tryz.func31, Tryz.ntmps31
    go_wp2
    go_ret
    refine ⟨congrArg (fun x => Ending.returned (.int .i64 x)) ?_, rfl⟩
    have := H.out
    first | omega | (simp only [wrap64]; omega)
end Go.Proofs.YtegcbjkikhheiaaGreatDoor
namespace Go.Proofs.YtegcbjkikhheiaaGreatDoor
open Go.RowKit Go.Deep Go.ChangeShapes Go.WideShapes Go.Shelf Go.Lib
theorem cells_of {H : Type} {enc : TypeId × Value → H} {w : World} {held : Bool} {a : Option Addr} {len cap : Nat} {d : DataW H} {p : List MemPlace} (h : DataW.Trod enc Tryz.prog w 0 (fun _ => true) held 54 (.slice a len cap) d p) :
    ∃ xs : List Cl, Reads w w.heap.size 3 a len (cls xs) ∧ len ≤ cap ∧ cap ≤ maxLen ∧ ClOk xs := by
  haveI : Inhabited Cl := ⟨(false, 0, ⟨#[]⟩)⟩
  refine structs_of 3 (fun c : Cl => [.bool c.1, .int .i64 c.2.1, .string c.2.2]) (fun c => -9223372036854775808 ≤ c.2.1 ∧ c.2.1 ≤ 9223372036854775807 ∧ c.2.2.size ≤ maxLen) (by decide) (fun _ => rfl)
    Tryz.underlying54 (by kernel_rfl) (fun n cs y hy => ?_) h
  obtain ⟨m, hl, hc⟩ := struct_cells Tryz.underlying53 (by kernel_rfl) (by kernel_rfl) hy
  match cs, hl with
  | [v0, v1, v2], _ =>
    obtain ⟨y0, g0⟩ := hc 0 _ _ rfl rfl
    obtain ⟨y1, g1⟩ := hc 1 _ _ rfl rfl
    obtain ⟨y2, g2⟩ := hc 2 _ _ rfl rfl
    obtain ⟨u, e0, -⟩ := DataW.trod_bool Tryz.underlying4 g0
    obtain ⟨k, e1, _, b1⟩ := DataW.trod_int Tryz.underlying2 g1
    obtain ⟨s, e2, _, b2⟩ := DataW.trod_string Tryz.underlying9 g2
    cases e0
    cases e1
    cases e2
    exact ⟨(u, k, s), rfl, (bounds_i64 b1).1, (bounds_i64 b1).2, b2⟩
theorem type_of {H : Type} {enc : TypeId × Value → H} {w : World} {held : Bool} {cs : Array Value} {d : DataW H} {p : List MemPlace} (h : DataW.Trod enc Tryz.prog w 0 (fun _ => true) held 62 (.agg cs) d p) :
    ∃ (k : Int) (nl : Bool), cs = #[.int .i64 k, .bool nl] ∧ -9223372036854775808 ≤ k ∧ k ≤ 9223372036854775807 := by
  obtain ⟨fuel, hf⟩ := h
  obtain ⟨m, hl, hc⟩ := struct_cells Tryz.underlying62 (by kernel_rfl) (by kernel_rfl) hf
  obtain ⟨cl, hcl⟩ : ∃ cl, cl = cs.toList := ⟨_, rfl⟩
  have hcs : cs = cl.toArray := by rw [hcl]
  have hcells : (Value.agg cs).cells = cs := rfl
  rw [hcells, ← hcl] at hl hc
  match cl, hl with
  | [v0, v1], _ =>
    obtain ⟨y0, g0⟩ := hc 0 _ _ rfl rfl
    obtain ⟨y1, g1⟩ := hc 1 _ _ rfl rfl
    obtain ⟨k, e0, _, b0⟩ := DataW.trod_int Tryz.underlying3 g0
    obtain ⟨u, e1, -⟩ := DataW.trod_bool Tryz.underlying4 g1
    cases e0
    cases e1
    exact ⟨k, u, hcs, (bounds_i64 b0).1, (bounds_i64 b0).2⟩
theorem first_eq : Pinned.utf8First = firstData := by kernel_rfl
theorem tabs_of {w : World} (h1 : VarReads Tryz.prog w "unicode/utf8.first" firstData) (h2 : VarReads Tryz.prog w "unicode/utf8.acceptRanges" acceptData) : Tabs w :=
  utf8Tabs_of_readsT (U8Types.of196 Tryz.laysValid) ⟨by kernel_rfl, by kernel_rfl, by kernel_rfl, by kernel_rfl, by kernel_rfl, by kernel_rfl, by kernel_rfl⟩ h1 h2
end Go.Proofs.YtegcbjkikhheiaaGreatDoor
namespace Go.Proofs.YtegcbjkikhheiaaGreatDoor
open Go.RowKit
theorem putO_ok {k : Int} {nl : Bool} {l : List Cl} (xs : List UInt8) (h : putE k nl l = 0) : putO k nl l xs = putB k nl l xs := by unfold putO; rw [if_pos h]
theorem putE_ok {k : Int} {nl : Bool} {l : List Cl} (hk : mayK k = true) (ha : allC k nl l = true) : putE k nl l = 0 := by simp [putE, hk, ha]
end Go.Proofs.YtegcbjkikhheiaaGreatDoor
namespace Go.Proofs.YtegcbjkikhheiaaGreatDoor
open Go.RowKit
abbrev yv (f : FuncId) (caps : Array Value) : Value := .func (.func f) #[] caps
section
variable {J Jx : List UInt8 → World → Prop} {base B : Nat} {f : FuncId} {caps : Array Value}
theorem prefix_app {a b c : List UInt8} (h : b <+: c) : a ++ b <+: a ++ c := (List.prefix_append_right_inj a).2 h
def Kept (base B : Nat) (w : World) (A : Option Addr) (n : Nat) (bs : List UInt8) : Prop := n ≤ maxLen ∧ ∀ wr, Mid base B w wr → Reads wr wr.heap.size 1 A n (u8s bs)
theorem Kept.own {w : World} {A : Option Addr} {n c : Nat} {bs : List UInt8} (ho : w.ownsRow B 5 1 (.slice A n c) n (u8s bs)) : Kept base B w A n bs :=
  ⟨Nat.le_trans (own_caps ho).1 (own_caps ho).2, fun wr h => own_reads (own_mid ho h (Nat.le_refl _))⟩
theorem str_conv {P : Program} (w : World) (src dst e : TypeId) (s : ByteArray) (hs : P.underlying src = some .string) (hd : P.underlying dst = some (.slice e)) (he : P.underlying e = some (.int .u8)) (hz : s.size ≤ maxLen) (base : Nat) (hB : B ≤ w.heap.size) :
    ∃ (c : Nat) (w1 : World), (convert src dst (.string s)).run P w = .ok (.slice (some ⟨w.heap.size, 0, none⟩) s.size c) w1 ∧ Kept base B w1 (some ⟨w.heap.size, 0, none⟩) s.size s.data.toList ∧ Below w.heap.size w w1 := by
  have hlen : s.data.toList.length = s.size := by rw [Array.length_toList]; rfl
  refine ⟨_, _, Lib.run_convert_string_bytes w src dst e s hs hd he, ⟨hz, fun wr hm => ⟨by simp [hlen], fun _ => ⟨_, rfl, ?_, ?_⟩⟩⟩, ?_⟩
  · have := hm.size
    rw [Lib.bytesWorld_size] at this
    show w.heap.size < _
    omega
  · intro j u hu
    simp only [u8s, List.getElem?_map, Option.map_eq_some_iff] at hu
    obtain ⟨b, hb, rfl⟩ := hu
    obtain ⟨hj, rfl⟩ := List.getElem?_eq_some_iff.1 hb
    have := Lib.bytesWorld_cell w e s j (by omega)
    rw [show (⟨w.heap.size, 0, none⟩ : Addr).add j = ⟨w.heap.size, j, none⟩ from by unfold Addr.add; split <;> simp_all]
    rw [hm.cell (p := ⟨w.heap.size, j, none⟩) (by rw [Lib.bytesWorld_size]; show w.heap.size < _; omega) (.inr hB)]
    rw [this, List.getD_eq_getElem?_getD, List.getElem?_eq_getElem hj]
    rfl
  · exact ⟨rfl, rfl, rfl, by rw [Lib.bytesWorld_size]; omega, fun k hk => Lib.bytesWorld_at_old w e s k hk⟩
set_option maxRecDepth 100000 in
set_option maxHeartbeats 1000000 in
theorem yall_any (hy : YOk f caps J Jx base B) (A : Option Addr) (n c : Nat) (bs pre : List UInt8) (w : World) (hJ : J pre w) (hk : Kept base B w A n bs) :
    Calls Tryz.prog 128 #[yv f caps, .slice A n c] w (Emit J Jx base B pre bs w) := by
  have hent := hy.ent
  have Hy := Lib.hid hy
  have HJ := Lib.hid hJ
  have HO := Lib.hid hk.2
  have hlen : bs.length = n := reads_len (hk.2 w (Mid.refl _ _ _))
  have Hlen := Lib.hid hlen
  have hn63 : n ≤ 9223372036854775807 := by
    have h2 := hk.1
    simp only [maxLen] at h2
    omega
  clear hy hJ hk hlen
  go_enter Tryz.func128, Tryz.ntmps128
  go_wp2
  go_loopw [9] (fun ix wr => ∃ i : Nat, i ≤ n ∧ ix = .int .i64 (i : Int) ∧ Hid (J (pre ++ bs.take i) wr) ∧ Hid (Mid base B w wr)) (fun ix _ => n - (intOf ix).toNat)
  case atStart => exact ⟨0, Nat.zero_le _, rfl, Lib.hid (by simpa using HJ.out), Lib.hid (Mid.refl _ _ _)⟩
  case round =>
    clear HJ
    obtain ⟨i, hi, rfl, HJ, HM⟩ := hrel
    by_cases hlt : i < n
    · have d1 : decide ((i : Int) < (n : Int)) = true := by simp; omega
      obtain ⟨ad, uu, rfl, hbk, hx, c1⟩ := (HO.out _ HM.out).at_ hlt
      obtain ⟨b, hb, rfl⟩ := u8s_get _ _ _ hx
      have hnx : bs.take (i + 1) = bs.take i ++ [b] := by rw [List.take_add_one, hb]; rfl
      have Hnx := Lib.hid hnx
      have Hb := Lib.hid hb
      have hii : (i : Int) < (n : Int) := by omega
      have hi1 : i + 1 ≤ n := hlt
      clear hbk hx hb hnx
      go_wp2_with fail
      refine (Hy.out.call (pre ++ bs.take i) b _ HJ.out).mono ?_
      rintro e w2 ⟨⟨rfl, hJ2⟩ | ⟨rfl, q, hq, hx⟩, hm2⟩
      · have HJ2 := Lib.hid (show J (pre ++ bs.take (i + 1)) w2 by rw [Hnx.out, ← List.append_assoc]; exact hJ2)
        have HM2 := Lib.hid (HM.out.trans hm2)
        clear hJ2 hm2 c1
        go_wp2
        go_roundw
        case rel => exact ⟨i + 1, hi1, by go_num, HJ2, HM2⟩
        case measure => simp [intOf]; omega
      · have HX := Lib.hid (show Emit J Jx base B pre bs w (.returned (.bool false)) w2 by
          refine Emit.no (q := bs.take i ++ q) ?_ (by rw [← List.append_assoc]; exact hx) (HM.out.trans hm2)
          have h1 : bs.take i ++ q <+: bs.take (i + 1) := by rw [Hnx.out]; exact prefix_app hq
          exact h1.trans (List.take_prefix _ _))
        clear hq hx hm2 c1
        go_wp2
        go_ret
        exact HX.out
    · obtain rfl : i = n := by omega
      have d1 : decide ((i : Int) < (i : Int)) = false := by simp
      have HX := Lib.hid (show Emit J Jx base B pre bs w (.returned (.bool true)) wr by
        refine Emit.yes ?_ HM.out
        have := HJ.out
        rwa [List.take_of_length_le (by rw [Hlen.out]; exact Nat.le_refl _)] at this)
      go_wp2
      go_ret
      exact HX.out
theorem YOk.own (hy : YOk f caps J Jx base B) {pre : List UInt8} {w w1 : World} (hJ : J pre w) {t : TypeId} {size n : Nat} {v : Value} {xs : List Value} (h : w1.ownsRow w.heap.size t size v n xs) : w1.ownsRow B t size v n xs := own_mono h (hy.big _ _ hJ)
set_option maxRecDepth 100000 in
set_option maxHeartbeats 1000000 in
theorem ynumber_any (hy : YOk f caps J Jx base B) (N : Nat) (pre : List UInt8) (w : World) (hJ : J pre w) (hN : N < 18446744073709551616) :
    Calls Tryz.prog 129 #[yv f caps, .int .u64 (N : Int)] w (Emit J Jx base B pre (leb N) w) := by
  have Hy := Lib.hid hy
  have HJ := Lib.hid hJ
  clear hy hJ
  go_enter Tryz.func129, Tryz.ntmps129
  go_wp2_with fail
  with_reducible refine (put_any none 0 0 N [] w Reads.none_ (Nat.le_refl _) (by decide) (by decide) hN).mono ?_
  rintro e w1 ⟨A1, c1, rfl, q1, q2, q3, q4⟩
  rw [Nat.zero_add, List.nil_append] at q3
  rw [Nat.zero_add]
  have HJ1 := Lib.hid (Hy.out.onJ HJ.out q4)
  have HO := Lib.hid (Hy.out.own HJ.out q3)
  have HM := Lib.hid (Mid.of_below (base := base) (B := B) q4)
  clear q1 q2 q3 q4
  generalize leb N = bs at *
  generalize bs.length = bl at HO ⊢
  go_wp2_with fail
  with_reducible refine (yall_any Hy.out A1 bl c1 bs pre _ HJ1.out (Kept.own HO.out)).mono ?_
  intro e w2 hE
  have HE := Lib.hid (Emit.ahead HM.out hE)
  rcases hE.1 with ⟨rfl, -⟩ | ⟨rfl, -⟩
  · clear hE
    go_wp2
    go_ret
    exact HE.out
  · clear hE
    go_wp2
    go_ret
    exact HE.out
set_option maxRecDepth 100000 in
set_option maxHeartbeats 1000000 in
theorem yzigzag_any (hy : YOk f caps J Jx base B) (N : Int) (pre : List UInt8) (w : World) (hJ : J pre w) (h1 : -9223372036854775808 ≤ N) (h2 : N ≤ 9223372036854775807) :
    Calls Tryz.prog 131 #[yv f caps, .int .i64 N] w (Emit J Jx base B pre (leb (zig N)) w) := by
  have Hy := Lib.hid hy
  have HJ := Lib.hid hJ
  have H12 := Lib.hid (And.intro h1 h2)
  clear hy hJ h1 h2
  go_enter Tryz.func131, Tryz.ntmps131
  go_wp2_with fail
  with_reducible refine (putInt_any none 0 0 N [] w Reads.none_ (Nat.le_refl _) (by decide) (by decide) H12.out.1 H12.out.2).mono ?_
  rintro e w1 ⟨A1, c1, rfl, q1, q2, q3, q4⟩
  rw [Nat.zero_add, List.nil_append] at q3
  rw [Nat.zero_add]
  have HJ1 := Lib.hid (Hy.out.onJ HJ.out q4)
  have HO := Lib.hid (Hy.out.own HJ.out q3)
  have HM := Lib.hid (Mid.of_below (base := base) (B := B) q4)
  clear q1 q2 q3 q4
  generalize leb (zig N) = bs at *
  generalize bs.length = bl at HO ⊢
  go_wp2_with fail
  with_reducible refine (yall_any Hy.out A1 bl c1 bs pre _ HJ1.out (Kept.own HO.out)).mono ?_
  intro e w2 hE
  have HE := Lib.hid (Emit.ahead HM.out hE)
  rcases hE.1 with ⟨rfl, -⟩ | ⟨rfl, -⟩
  · clear hE
    go_wp2
    go_ret
    exact HE.out
  · clear hE
    go_wp2
    go_ret
    exact HE.out
set_option maxRecDepth 100000 in
set_option maxHeartbeats 1000000 in
theorem ytext_any (hy : YOk f caps J Jx base B) (s : ByteArray) (pre : List UInt8) (w : World) (hJ : J pre w) (hs : s.size ≤ maxLen) :
    Calls Tryz.prog 180 #[yv f caps, .string s] w (Emit J Jx base B pre (putText s) w) := by
  have Hy := Lib.hid hy
  have HJ := Lib.hid hJ
  have hs63 : s.size ≤ 9223372036854775807 := by simp only [maxLen] at hs; omega
  have Hs := Lib.hid hs
  clear hy hJ hs
  go_enter Tryz.func180, Tryz.ntmps180
  go_wp2_with fail
  with_reducible refine (ynumber_any Hy.out s.size pre _ HJ.out (by omega)).mono ?_
  intro e w1 hE1
  have hbl : (bts s).length = s.size := by unfold bts; rw [Array.length_toList]; rfl
  have hpt : putText s = leb s.size ++ bts s := by unfold putText; rw [hbl]
  rcases hE1.1 with ⟨rfl, hJ1⟩ | ⟨rfl, q, hq, hx⟩
  · have HJ1 := Lib.hid hJ1
    have HM1 := Lib.hid hE1.2
    have Hpt := Lib.hid hpt
    obtain ⟨c3, w3, hcv, hk3, hb3⟩ := str_conv (B := B) w1 9 26 5 s Tryz.underlying9 Tryz.underlying26 Tryz.underlying5 Hs.out base (Hy.out.big _ _ hJ1)
    have HK := Lib.hid hk3
    have HB := Lib.hid hb3
    clear hE1 hJ1 hk3 hb3 hbl hpt
    go_wp2_with fail
    clear hcv
    with_reducible refine (yall_any Hy.out (some ⟨w1.heap.size, 0, none⟩) s.size c3 s.data.toList (pre ++ leb s.size) _ (Hy.out.onJ HJ1.out HB.out) HK.out).mono ?_
    intro e w4 hE4
    have HE := Lib.hid (show Emit J Jx base B pre (putText s) w e w4 by
      rw [Hpt.out]
      exact Emit.after (HM1.out.trans (Mid.of_below HB.out)) hE4)
    rcases hE4.1 with ⟨rfl, -⟩ | ⟨rfl, -⟩
    · clear hE4
      go_wp2
      go_ret
      exact HE.out
    · clear hE4
      go_wp2
      go_ret
      exact HE.out
  · have HE := Lib.hid (show Emit J Jx base B pre (putText s) w (.returned (.bool false)) w1 by
      rw [hpt]
      exact Emit.stop (Mid.refl _ _ _) hq hx hE1.2)
    clear hE1 hq hx hbl hpt
    go_wp2
    go_ret
    exact HE.out
structure DoOk (J Jx : List UInt8 → World → Prop) (base B : Nat) (Env : World → Prop) (d : FuncId) (dc : Array Value) (l : List Cl) (fb : Cl → List UInt8) : Prop where
  env : ∀ W W', Env W → Mid base B W W' → Env W'
  call : ∀ pre u x s W, (u, x, s) ∈ l → J pre W → Env W → Calls Tryz.prog d (#[.agg #[.bool u, .int .i64 x, .string s]] ++ dc) W (Emit J Jx base B pre (fb (u, x, s)) W)
  ent : ∀ args w, (callFunc d args).run Tryz.prog w = .ok (.enter d args) w
set_option maxRecDepth 100000 in
set_option maxHeartbeats 1000000 in
theorem each_any (hy : YOk f caps J Jx base B) {Env : World → Prop} {d : FuncId} {dc : Array Value} {fb : Cl → List UInt8} (A : Option Addr) (n c : Nat) (l : List Cl) (pre : List UInt8) (w : World) (hd : DoOk J Jx base B Env d dc l fb) (hE : Env w) (hJ : J pre w) (ho : w.ownsRow B 53 3 (.slice A n c) n (cls l)) :
    Calls Tryz.prog 178 #[.slice A n c, yv d dc] w (Emit J Jx base B pre (l.flatMap fb) w) := by
  have hent := hd.ent
  have Hy := Lib.hid hy
  have Hd := Lib.hid hd
  have HEv := Lib.hid hE
  have HJ := Lib.hid hJ
  have HO := Lib.hid ho
  have hlen : l.length = n := cls_len (own_reads ho)
  have Hlen := Lib.hid hlen
  have hn63 : n ≤ 9223372036854775807 := by
    obtain ⟨h1, h2⟩ := own_caps ho
    simp only [maxLen] at h2
    omega
  clear hy hJ ho hlen hd hE
  go_enter Tryz.func178, Tryz.ntmps178
  go_wp2
  go_loopw [9] (fun ix wr => ∃ i : Nat, i ≤ n ∧ ix = .int .i64 (i : Int) ∧ Hid (J (pre ++ (l.take i).flatMap fb) wr) ∧ Hid (Mid base B w wr)) (fun ix _ => n - (intOf ix).toNat)
  case atStart => exact ⟨0, Nat.zero_le _, rfl, Lib.hid (by simpa using HJ.out), Lib.hid (Mid.refl _ _ _)⟩
  case round =>
    clear HJ
    obtain ⟨i, hi, rfl, HJ, HM⟩ := hrel
    by_cases hlt : i < n
    · have d1 : decide ((i : Int) < (n : Int)) = true := by simp; omega
      obtain ⟨ad, u, x, s, rfl, hbk, hb, g0, g1, g2⟩ := cls_at (own_reads (own_mid HO.out HM.out (Nat.le_refl _))) hlt
      have hnx : (l.take (i + 1)).flatMap fb = (l.take i).flatMap fb ++ fb (u, x, s) := by rw [List.take_add_one, hb, List.flatMap_append]; simp
      have Hnx := Lib.hid hnx
      have Hb := Lib.hid (List.mem_of_getElem? hb)
      have hii : (i : Int) < (n : Int) := by omega
      have hi1 : i + 1 ≤ n := hlt
      have HMa := Lib.hid (HM.out.alloc (.cells #[.bool u, .int .i64 x, .string s] 53))
      have HJa := Lib.hid (Hy.out.alJ HJ.out (.cells #[.bool u, .int .i64 x, .string s] 53))
      clear hb hnx hbk
      go_wp2_with fail
      with_reducible refine (Hd.out.call _ u x s _ Hb.out HJa.out (Hd.out.env _ _ HEv.out HMa.out)).mono ?_
      rintro e w2 ⟨⟨rfl, hJ2⟩ | ⟨rfl, q, hq, hx⟩, hm2⟩
      · have HJ2 := Lib.hid (show J (pre ++ (l.take (i + 1)).flatMap fb) w2 by rw [Hnx.out, ← List.append_assoc]; exact hJ2)
        have HM2 := Lib.hid (HMa.out.trans hm2)
        clear hJ2 hm2 g0 g1 g2
        go_wp2
        go_roundw
        case rel => exact ⟨i + 1, hi1, by go_num, HJ2, HM2⟩
        case measure => simp [intOf]; omega
      · have HX := Lib.hid (show Emit J Jx base B pre (l.flatMap fb) w (.returned (.bool false)) w2 by
          refine Emit.no (q := (l.take i).flatMap fb ++ q) ?_ (by rw [← List.append_assoc]; exact hx) (HMa.out.trans hm2)
          have h1 : (l.take i).flatMap fb ++ q <+: (l.take (i + 1)).flatMap fb := by rw [Hnx.out]; exact prefix_app hq
          refine h1.trans ?_
          conv => rhs; rw [← List.take_append_drop (i + 1) l, List.flatMap_append]
          exact List.prefix_append _ _)
        clear hq hx hm2 g0 g1 g2
        go_wp2
        go_ret
        exact HX.out
    · obtain rfl : i = n := by omega
      have d1 : decide ((i : Int) < (i : Int)) = false := by simp
      have HX := Lib.hid (show Emit J Jx base B pre (l.flatMap fb) w (.returned (.bool true)) wr by
        refine Emit.yes ?_ HM.out
        have := HJ.out
        rwa [List.take_of_length_le (by rw [Hlen.out]; exact Nat.le_refl _)] at this)
      go_wp2
      go_ret
      exact HX.out
end
end Go.Proofs.YtegcbjkikhheiaaGreatDoor
namespace Go.Proofs.YtegcbjkikhheiaaGreatDoor
open Go.RowKit
set_option maxRecDepth 100000 in
theorem gthere_any (u : Bool) (x : Int) (s : ByteArray) (w : World) :
    Calls Tryz.prog 174 #[.agg #[.bool u, .int .i64 x, .string s]] w fun e w' => e = .returned (.bool (!u)) ∧ Below w.heap.size w w' := by
  go_enter Tryz.func174, Tryz.ntmps174
  go_wp2
  go_ret
  exact ⟨rfl, bal (Below.refl _ _) _⟩
set_option maxRecDepth 100000 in
theorem gisone_any (u : Bool) (x : Int) (s : ByteArray) (w : World) :
    Calls Tryz.prog 176 #[.agg #[.bool u, .int .i64 x, .string s]] w fun e w' => e = .returned (.bool (x == 1)) ∧ Below w.heap.size w w' := by
  go_enter Tryz.func176, Tryz.ntmps176
  go_wp2
  go_ret
  exact ⟨rfl, bal (Below.refl _ _) _⟩
def sliceLen : Value → Nat
  | .slice _ n _ => n
  | _ => 0
structure AskOk (d : FuncId) (isP : Cl → Bool) : Prop where
  call : ∀ u x s W, Calls Tryz.prog d #[.agg #[.bool u, .int .i64 x, .string s]] W fun e w' => e = .returned (.bool (isP (u, x, s))) ∧ Below W.heap.size W w'
  ent : ∀ args w, (callFunc d args).run Tryz.prog w = .ok (.enter d args) w
theorem there_ok : AskOk 174 (fun c => !c.1) := ⟨fun u x s W => gthere_any u x s W, fun args w => callFunc_in Tryz.func174 (by kernel_rfl) (by kernel_rfl) args w⟩
theorem isone_ok : AskOk 176 (fun c => c.2.1 == 1) := ⟨fun u x s W => gisone_any u x s W, fun args w => callFunc_in Tryz.func176 (by kernel_rfl) (by kernel_rfl) args w⟩
section
variable {J Jx : List UInt8 → World → Prop} {base B : Nat} {f : FuncId} {caps : Array Value}
def KeptC (base B : Nat) (w : World) (A : Option Addr) (n : Nat) (l : List Cl) : Prop := ∀ wr, Mid base B w wr → Reads wr wr.heap.size 3 A n (cls l)
theorem KeptC.own {w : World} {A : Option Addr} {n c : Nat} {l : List Cl} (ho : w.ownsRow B 53 3 (.slice A n c) n (cls l)) : KeptC base B w A n l := fun wr h => own_reads (own_mid ho h (Nat.le_refl _))
theorem byte_small (l : List Bool) : ((UInt8.ofNat (byteOf (l.take 8))).toNat : Int) = ((byteOf (l.take 8) : Nat) : Int) := by
  rw [ofNat_toNat' _ (byteOf_lt8 _ (List.length_take_le _ _))]
set_option maxRecDepth 100000 in
set_option maxHeartbeats 4000000 in
theorem ymask_any (hy : YOk f caps J Jx base B) {di : FuncId} {isP : Cl → Bool} (ha : AskOk di isP) (A : Option Addr) (n c : Nat) (l : List Cl) (pre : List UInt8) (w : World) (hJ : J pre w) (hn : n ≤ c) (hc : c ≤ maxLen) (hk : KeptC base B w A n l) :
    Calls Tryz.prog 175 #[yv f caps, .slice A n c, .func (.func di) #[] #[]] w (Emit J Jx base B pre (packL (l.map isP)) w) := by
  have hent := hy.ent
  have hent2 := ha.ent
  have Hy := Lib.hid hy
  have Ha := Lib.hid ha
  have HJ := Lib.hid hJ
  have HK := Lib.hid hk
  clear hy hJ hk ha
  go_enter Tryz.func175, Tryz.ntmps175
  go_wp2
  go_loopw [1] (fun v wr => ∃ (A' : Option Addr) (m c' : Nat) (rest : List Cl) (done : List UInt8), v = .slice A' m c' ∧ m ≤ c' ∧ c' ≤ maxLen ∧ Hid (KeptC base B w A' m rest) ∧ Hid (packL (l.map isP) = done ++ packL (rest.map isP)) ∧ Hid (J (pre ++ done) wr) ∧ Hid (Mid base B w wr)) (fun v _ => sliceLen v)
  case atStart => exact ⟨A, n, c, l, [], rfl, hn, hc, HK, Lib.hid rfl, Lib.hid (by simpa using HJ.out), Lib.hid (Mid.refl _ _ _)⟩
  case round =>
    clear HJ HK
    obtain ⟨A', m, c', rest, done, rfl, hm1, hm2, HK, Hd, HJ, HM⟩ := hrel
    have hrl : rest.length = m := cls_len (HK.out _ HM.out)
    have Hrl := Lib.hid hrl
    have hm63 : c' ≤ 9223372036854775807 := by simp only [maxLen] at hm2; omega
    clear hrl
    by_cases hm : 0 < m
    · have d1 : decide ((0 : Int) < (m : Int)) = true := by simp; omega
      obtain ⟨mn, hmn⟩ : ∃ mn : Nat, mn = min 8 m := ⟨_, rfl⟩
      have hmi : min (8 : Int) (m : Int) = (mn : Int) := by omega
      have h1 : mn ≤ m := by omega
      have h8 : mn ≤ 8 := by omega
      have hmi2 : (mn : Int) ≤ (c' : Int) := by omega
      clear hmn
      generalize wr = W at *
      go_wp2
      go_loopw [7, 24] (fun u ix wr => ∃ i : Nat, i ≤ mn ∧ ix = .int .i64 (i : Int) ∧ u = .int .u8 ((byteOf ((rest.map isP).take i) : Nat) : Int) ∧ Hid (J (pre ++ done) wr) ∧ Hid (Mid base B w wr)) (fun _ ix _ => mn - (intOf ix).toNat)
      case atStart => exact ⟨0, Nat.zero_le _, rfl, rfl, HJ, HM⟩
      case round =>
        clear HJ HM
        obtain ⟨i, hi, rfl, rfl, HJ, HM⟩ := hrel
        by_cases hlt : i < mn
        · have d2 : decide ((i : Int) < (mn : Int)) = true := by simp; omega
          have hlm : i < m := by omega
          obtain ⟨ad, u, x, s, rfl, hbk, hb, g0, g1, g2⟩ := cls_at (HK.out _ HM.out) hlm
          have hst := byteOf_step (rest.map isP) i (isP (u, x, s)) (by rw [List.getElem?_map, hb]; rfl)
          have hlt2 := byteOf_lt_take (rest.map isP) i
          have Hst := Lib.hid hst
          have hii : (i : Int) < (mn : Int) := by omega
          have hi1 : i + 1 ≤ mn := hlt
          have HMa := Lib.hid (HM.out.alloc (.cells #[.bool u, .int .i64 x, .string s] 53))
          have HJa := Lib.hid (Hy.out.alJ HJ.out (.cells #[.bool u, .int .i64 x, .string s] 53))
          clear hb hbk hst
          generalize byteOf ((rest.map isP).take i) = bb at *
          go_wp2_with fail
          with_reducible refine (Ha.out.call u x s _).mono ?_
          obtain ⟨q, hq⟩ : ∃ q, isP (u, x, s) = q := ⟨_, rfl⟩
          rw [hq] at Hst ⊢
          rintro e w2 ⟨rfl, hb2⟩
          have HM2 := Lib.hid (HMa.out.trans (Mid.of_below hb2))
          have HJ2 := Lib.hid (Hy.out.onJ HJa.out hb2)
          clear hb2 hq g0 g1 g2 HMa HJa
          cases q with
          | true =>
            have Hbo := Lib.hid (bit_or bb i hlt2 (by omega))
            have he : ((2 : Int) ^ i) % 256 = (2 : Int) ^ i := by
              have h2 : (2 : Nat) ^ i ≤ 2 ^ 7 := Nat.pow_le_pow_right (by omega) (by omega)
              have e : ((2 : Int) ^ i) = ((2 ^ i : Nat) : Int) := by rw [Int.natCast_pow]; rfl
              rw [e]
              generalize 2 ^ i = z at h2 ⊢
              omega
            have He := Lib.hid he
            rw [if_pos rfl] at Hst
            clear hlt2 he
            go_wp2
            rw [He.out, Hbo.out]
            go_roundw
            case rel => exact ⟨i + 1, hi1, by go_num, by rw [Hst.out], HJ2, HM2⟩
            case measure => simp [intOf]; omega
          | false =>
            have Hst := Lib.hid (show byteOf ((rest.map isP).take (i + 1)) = bb by have := Hst.out; simpa using this)
            clear hlt2
            go_wp2
            go_roundw
            case rel => exact ⟨i + 1, hi1, by go_num, by rw [Hst.out], HJ2, HM2⟩
            case measure => simp [intOf]; omega
        · obtain rfl : i = mn := by omega
          have d2 : decide ((i : Int) < (i : Int)) = false := by simp
          have hne : rest.map isP ≠ [] := by
            intro h
            have := congrArg List.length h
            rw [List.length_map, Hrl.out] at this
            simp at this
            omega
          have hch := packL_chunk (rest.map isP) hne
          have htk : (rest.map isP).take i = (rest.map isP).take 8 := by
            rcases Nat.lt_or_ge m 8 with h | h
            · rw [List.take_of_length_le (by rw [List.length_map, Hrl.out]; omega), List.take_of_length_le (by rw [List.length_map, Hrl.out]; omega)]
            · rw [show i = 8 by omega]
          have hdr : (rest.map isP).drop 8 = (rest.drop i).map isP := by
            rw [List.map_drop]
            rcases Nat.lt_or_ge m 8 with h | h
            · rw [List.drop_of_length_le (by rw [List.length_map, Hrl.out]; omega), List.drop_of_length_le (by rw [List.length_map, Hrl.out]; omega)]
            · rw [show i = 8 by omega]
          rw [htk, ← byte_small]
          rw [hdr] at hch
          obtain ⟨bc, hbc⟩ : ∃ bc, UInt8.ofNat (byteOf ((rest.map isP).take 8)) = bc := ⟨_, rfl⟩
          rw [hbc] at hch ⊢
          have Hd2 := Lib.hid (show packL (l.map isP) = (done ++ [bc]) ++ packL ((rest.drop i).map isP) by rw [Hd.out, hch]; simp)
          have HK2 := Lib.hid (show ∀ c2, c2 = c' → KeptC base B w (if c2 = i then A' else A'.map (·.add (i * 3))) (m - i) (rest.drop i) from fun c2 h2 wr h => by
            subst h2
            rw [← cls_drop]
            exact (HK.out wr h).cut h1 hm1)
          have Hsz := Lib.hid (And.intro hm1 hm2)
          clear hch htk hdr hbc hne
          go_wp2_with fail
          with_reducible refine (Hy.out.call (pre ++ done) bc _ HJ.out).mono ?_
          rintro e w2 ⟨⟨rfl, hJ2⟩ | ⟨rfl, q, hq, hx⟩, hm2'⟩
          · have HJ2 := Lib.hid (show J (pre ++ (done ++ [bc])) w2 by rw [← List.append_assoc]; exact hJ2)
            have HM2 := Lib.hid (HM.out.trans hm2')
            clear hJ2 hm2' HJ
            obtain ⟨A2, hA2⟩ : ∃ A2, (if c' = i then A' else A'.map (fun x => x.add (i * 3))) = A2 := ⟨_, rfl⟩
            have HK3 := HK2.out c' rfl
            rw [show (fun x : Addr => x.add (i * 3)) = (·.add (i * 3)) from rfl] at hA2
            rw [hA2] at HK3
            have HK3 := Lib.hid HK3
            have hsub : ((m : Int) - (i : Int)) = ((m - i : Nat) : Int) := by omega
            have hsub2 : ((c' : Int) - (i : Int)) = ((c' - i : Nat) : Int) := by omega
            have hle1 : m - i ≤ c' - i := by omega
            have hle2 : c' - i ≤ maxLen := by have := Hsz.out.2; omega
            have hpos : 0 < i := by
              rcases Nat.eq_zero_or_pos i with h | h
              · omega
              · exact h
            go_wp2
            go_roundw
            case rel => exact ⟨A2, m - i, c' - i, rest.drop i, done ++ [bc], rfl, hle1, hle2, HK3, Hd2, HJ2, HM2⟩
            case measure => simp [sliceLen]; omega
          · have HX := Lib.hid (show Emit J Jx base B pre (packL (l.map isP)) w (.returned (.bool false)) w2 by
              refine Emit.no (q := done ++ q) ?_ (by rw [← List.append_assoc]; exact hx) (HM.out.trans hm2')
              rw [Hd2.out, List.append_assoc]
              exact prefix_app (hq.trans (List.prefix_append _ _)))
            clear hq hx hm2'
            go_wp2
            go_ret
            exact HX.out
    · obtain rfl : m = 0 := by omega
      have hr0 : rest = [] := List.eq_nil_of_length_eq_zero Hrl.out
      subst hr0
      have HX := Lib.hid (show Emit J Jx base B pre (packL (l.map isP)) w (.returned (.bool true)) wr by
        refine Emit.yes ?_ HM.out
        rw [Hd.out]
        have := HJ.out
        rwa [List.map_nil, packL_nil, List.append_nil])
      have d1 : decide ((0 : Int) < ((0 : Nat) : Int)) = false := rfl
      go_wp2
      go_ret
      exact HX.out
end
end Go.Proofs.YtegcbjkikhheiaaGreatDoor
