/- Layer 3: writers in memory. -/
import Derived.Test.YtnkkhplddjopnaaLebRef
import Derived.Test.YtnkkhplddjopnaaStr
import Derived.Test.YtnkkhplddjopnaaHeld
import Derived.Test.YtnkkhplddjopnaaCut
set_option linter.unusedVariables false
set_option linter.unusedSimpArgs false
namespace Go.Proofs.Ytnkkhplddjopnaa
open Go.RowKit
/-- Of what was there, nothing but block g and the row's block r was turned. -/
structure Touch (w w' : World) (g : Nat) (r : Option Nat) : Prop where
  os : w'.os = w.os
  tape : w'.tape = w.tape
  output : w'.output = w.output
  size : w.heap.size ≤ w'.heap.size
  block : ∀ k, k < w.heap.size → k ≠ g → some k ≠ r → w'.heap[k]? = w.heap[k]?
/-- The row's block is the same, or a new one. -/
def Next (w : World) (r r' : Option Nat) : Prop := r' = r ∨ ∃ k, r' = some k ∧ w.heap.size ≤ k
section
variable {w w1 w2 : World} {g : Nat} {r r1 r2 : Option Nat}
theorem Touch.refl : Touch w w g r := ⟨rfl, rfl, rfl, Nat.le_refl _, fun _ _ _ _ => rfl⟩
theorem Next.refl : Next w r r := .inl rfl
theorem Touch.trans (h : Touch w w1 g r) (hn : Next w r r1) (h2 : Touch w1 w2 g r1) : Touch w w2 g r :=
  ⟨h2.os.trans h.os, h2.tape.trans h.tape, h2.output.trans h.output, Nat.le_trans h.size h2.size, fun k hk h3 h4 => by
    refine (h2.block k (Nat.lt_of_lt_of_le hk h.size) h3 ?_).trans (h.block k hk h3 h4)
    rcases hn with rfl | ⟨q, rfl, hq⟩
    · exact h4
    · intro e
      injection e with e
      omega⟩
theorem Next.trans (h : Next w r r1) (hs : w.heap.size ≤ w1.heap.size) (h2 : Next w1 r1 r2) : Next w r r2 := by
  rcases h2 with rfl | ⟨k, rfl, hk⟩
  · exact h
  · exact .inr ⟨k, rfl, Nat.le_trans hs hk⟩
theorem Touch.of_below (h : Below w.heap.size w w1) : Touch w w1 g r := ⟨h.os, h.tape, h.output, h.size, fun k hk _ _ => h.block k hk⟩
theorem Touch.of_grown (h : w.grownBy w1 r) : Touch w w1 g r := ⟨h.os, h.tape, h.output, h.size, fun k hk _ h4 => h.block k hk h4⟩
theorem Touch.set (w : World) (i : Nat) (u : Value) : Touch w (w.setCell ⟨g, i, none⟩ u) g r := by
  have h := grown_set' w g i u
  exact ⟨h.os, h.tape, h.output, h.size, fun k hk h3 _ => h.block k hk (by simpa using h3)⟩
 where grown_set' (w : World) (g i : Nat) (u : Value) : w.grownBy (w.setCell ⟨g, i, none⟩ u) (some g) :=
  ⟨rfl, rfl, rfl, by simp [World.setCell], fun k hk hne => Below.heap_setCell w ⟨g, i, none⟩ u k (by intro e; exact hne (by rw [e]))⟩
theorem Touch.below {B : Nat} (h : Touch w w1 g r) (hB : B ≤ w.heap.size) (hg : B ≤ g) (hr : ∀ k, r = some k → B ≤ k) : Below B w w1 :=
  ⟨h.os, h.tape, h.output, h.size, fun k hk => h.block k (by omega) (by omega) (fun e => by have := hr k e.symm; omega)⟩
end
theorem blk_touch {w w' : World} {g g2 : Nat} {r : Option Nat} {t : TypeId} {cs : Array Value} (h : Blk w g t cs) (ht : Touch w w' g2 r) (h1 : g ≠ g2) (h2 : some g ≠ r) : Blk w' g t cs := (ht.block g h.lt h1 h2).trans h
theorem own_touch {w w' : World} {base size n g2 : Nat} {e : TypeId} {v : Value} {xs : List Value} {r : Option Nat} (h : w.ownsRow base e size v n xs) (ht : Touch w w' g2 r) (h1 : v.ownBlock ≠ some g2) (h2 : v.ownBlock = none ∨ v.ownBlock ≠ r) : w'.ownsRow base e size v n xs := by
  rcases h.2 with ⟨rfl, h0⟩ | ⟨g, cap, cur, rfl, h3, h4, h5⟩
  · exact ⟨h.1, .inl ⟨rfl, h0⟩⟩
  · refine ⟨h.1, .inr ⟨g, cap, cur, rfl, h3, ?_, h5⟩⟩
    have hlt : g < w.heap.size := by
      rcases Nat.lt_or_ge g w.heap.size with hlt | hge
      · exact hlt
      · rw [Array.getElem?_eq_none hge] at h4; cases h4
    refine (ht.block g hlt (by simpa [Value.ownBlock] using h1) ?_).trans h4
    rcases h2 with h2 | h2
    · simp [Value.ownBlock] at h2
    · exact h2
/-- A row of the call's own and a block of another type are apart. -/
theorem own_blk {w : World} {base size n g : Nat} {e t : TypeId} {v : Value} {xs : List Value} {cs : Array Value} (h : w.ownsRow base e size v n xs) (hb : Blk w g t cs) (hne : e ≠ t) : v.ownBlock ≠ some g := by
  rcases h.2 with ⟨rfl, h0⟩ | ⟨g2, cap, cur, rfl, h1, h2, h3⟩
  · simp [Value.ownBlock]
  · simp only [Value.ownBlock, ne_eq, Option.some.injEq]
    rintro rfl
    unfold Blk at hb
    rw [h2] at hb
    injection hb with hb
    injection hb with _ h4
    exact hne h4
section
variable {P : Program} {w : World}
/-- append onto a row of the call's own: which block the row lies in behind it. -/
theorem wpList_append_blk {ops : Array Oper} {rest : List Oper} {o : Oper} {a : Act} {Q : Exit → Act → World → Prop} (hgd : o.guard = none) (s x : Operand) (t : TypeId)
    (ho : o.op = .call { callee := .builtin .append, args := #[s, x], argTypes := #[t, t] })
    (base : Nat) (e : TypeId) (i : TypeInfo) (z : Value) (size bytes : Nat) (ht : P.underlying t = some (.slice e)) (hi : P.info? e = some i) (hz : i.zero = some z)
    (hsize : i.size = size) (hby : i.bytes = bytes) (hzs : z.cells.size = size) (hsz : 0 < size)
    (A0 : Option Addr) (n c0 : Nat) (xs : List Value) (hs : a.eval s = .slice A0 n c0) (hown : w.ownsRow base e size (.slice A0 n c0) n xs)
    (A : Option Addr) (m c : Nat) (news : List Value) (hx : a.eval x = .slice A m c) (hr : Reads w w.heap.size size A m news) (h1 : ∀ u ∈ news, u.oneCell' = true)
    (h63 : n + m ≤ maxLen) (hbytes : (n + m) * bytes ≤ 70368744177664) (hbase : base ≤ w.heap.size)
    (h : ∀ A' c' w', w'.ownsRow base e size (.slice A' (n + m) c') (n + m) (xs ++ news) → w.grownBy w' (Value.slice A0 n c0).ownBlock → ((Value.slice A' (n + m) c').ownBlock = (Value.slice A0 n c0).ownBlock ∨ (Value.slice A' (n + m) c').ownBlock = some w.heap.size) → wpList P ops Q rest (a.put o.dst (.slice A' (n + m) c')) w') : wpList P ops Q (o :: rest) a w :=
  wpList_plain hgd fun K hK => by
    obtain ⟨v', w', hrun, h2, h3, h5⟩ := run_append_any (P := P) w base t o.type e i z size bytes ht hi hz hsize hby hzs hsz _ n xs hown _ A m c news hr h1 h63 (by omega) hbase
    obtain ⟨A', c', rfl, hl1, hl2⟩ := own_shape h2
    unfold Oper.wp execOp
    simp only [ho, resolve, invoke, builtin, Sem.run_bind, Sem.run_pure, Result.andThen_ok, List.map_toArray, List.map_cons, List.map_nil, hs, hx, hrun]
    exact hK _ _ (h A' c' w' h2 h3 h5)
end
/-- What Raw does: the bytes, and whether it is full. -/
def rawB (B : List UInt8) (most : Int) (full : Bool) (b : List UInt8) : List UInt8 × Bool :=
  if full = true ∨ most - (B.length : Int) < (b.length : Int) then (B, true) else (B ++ b, false)
/-- A writer of the program. -/
def PWr (w : World) (base g : Nat) (r : Option Nat) (B : List UInt8) (most : Int) (full : Bool) : Prop :=
  base ≤ g ∧ ∃ (A : Option Addr) (c : Nat), Blk w g 65 #[.slice A B.length c, .bool true, .int .i64 most, .bool full] ∧ w.ownsRow base 5 1 (.slice A B.length c) B.length (u8s B) ∧ (Value.slice A B.length c).ownBlock = r
/-- A writer of the document's. -/
def RWr (w : World) (base g : Nat) (r : Option Nat) (B : List UInt8) (most : Int) (full : Bool) : Prop :=
  base ≤ g ∧ ∃ (A : Option Addr) (c : Nat), Blk w g 38 #[.slice A B.length c, .int .i64 most, .bool full] ∧ w.ownsRow base 5 1 (.slice A B.length c) B.length (u8s B) ∧ (Value.slice A B.length c).ownBlock = r
section
variable {w w' : World} {base g g2 : Nat} {r r2 : Option Nat} {B B2 : List UInt8} {most most2 : Int} {full full2 : Bool}
theorem PWr.lt (h : PWr w base g r B most full) : g < w.heap.size ∧ base ≤ g ∧ ∀ k, r = some k → base ≤ k ∧ k < w.heap.size := by
  obtain ⟨h0, A, c, h1, h2, rfl⟩ := h
  exact ⟨h1.lt, h0, fun k hk => h2.lt k hk⟩
theorem RWr.lt (h : RWr w base g r B most full) : g < w.heap.size ∧ base ≤ g ∧ ∀ k, r = some k → base ≤ k ∧ k < w.heap.size := by
  obtain ⟨h0, A, c, h1, h2, rfl⟩ := h
  exact ⟨h1.lt, h0, fun k hk => h2.lt k hk⟩
theorem PWr.on (h : PWr w base g r B most full) (hb : Below w.heap.size w w') : PWr w' base g r B most full := by
  obtain ⟨h0, A, c, h1, h2, h3⟩ := h
  exact ⟨h0, A, c, h1.on hb, own_below h2 hb, h3⟩
theorem RWr.on (h : RWr w base g r B most full) (hb : Below w.heap.size w w') : RWr w' base g r B most full := by
  obtain ⟨h0, A, c, h1, h2, h3⟩ := h
  exact ⟨h0, A, c, h1.on hb, own_below h2 hb, h3⟩
/-- A writer of the document's is kept while one of the program's is written. -/
theorem RWr.kept (h : RWr w base g r B most full) (hp : PWr w base g2 r2 B2 most2 full2) (hne : r = none ∨ r ≠ r2) (ht : Touch w w' g2 r2) : RWr w' base g r B most full := by
  obtain ⟨h0, A, c, h1, h2, h3⟩ := h
  obtain ⟨k0, A2, c2, k1, k2, k3⟩ := hp
  have e1 := own_blk h2 k1 (by decide)
  have e2 := own_blk k2 h1 (by decide)
  rw [h3] at e1
  rw [k3] at e2
  have hgg : g ≠ g2 := by
    rintro rfl
    unfold Blk at h1 k1
    rw [h1] at k1
    injection k1 with k1
    injection k1 with _ k4
    exact absurd k4 (by decide)
  exact ⟨h0, A, c, blk_touch h1 ht hgg (fun e => e2 e.symm), own_touch h2 ht (by rw [h3]; exact e1) (by rw [h3]; exact hne), h3⟩
theorem PWr.kept (h : PWr w base g r B most full) (hp : RWr w base g2 r2 B2 most2 full2) (hne : r = none ∨ r ≠ r2) (ht : Touch w w' g2 r2) : PWr w' base g r B most full := by
  obtain ⟨h0, A, c, h1, h2, h3⟩ := h
  obtain ⟨k0, A2, c2, k1, k2, k3⟩ := hp
  have e1 := own_blk h2 k1 (by decide)
  have e2 := own_blk k2 h1 (by decide)
  rw [h3] at e1
  rw [k3] at e2
  have hgg : g ≠ g2 := by
    rintro rfl
    unfold Blk at h1 k1
    rw [h1] at k1
    injection k1 with k1
    injection k1 with _ k4
    exact absurd k4 (by decide)
  exact ⟨h0, A, c, blk_touch h1 ht hgg (fun e => e2 e.symm), own_touch h2 ht (by rw [h3]; exact e1) (by rw [h3]; exact hne), h3⟩
end
/-- What a piece's writing does. -/
def Wr (base g : Nat) (r : Option Nat) (B : List UInt8) (most : Int) (full : Bool) (b : List UInt8) (w : World) (e : Ending) (w' : World) : Prop :=
  e = .returned (.tuple #[]) ∧ Touch w w' g r ∧ ∃ r', Next w r r' ∧ PWr w' base g r' (rawB B most full b).1 most (rawB B most full b).2
def RWrt (base g : Nat) (r : Option Nat) (B : List UInt8) (most : Int) (full : Bool) (b : List UInt8) (w : World) (e : Ending) (w' : World) : Prop :=
  e = .returned (.tuple #[]) ∧ Touch w w' g r ∧ ∃ r', Next w r r' ∧ RWr w' base g r' (rawB B most full b).1 most (rawB B most full b).2
/-- .. begun in an older world. -/
theorem Wr.from_ {base g : Nat} {r : Option Nat} {B : List UInt8} {most : Int} {full : Bool} {b : List UInt8} {w w1 : World} {e : Ending} {w' : World} (h : Wr base g r B most full b w1 e w') (hb : Below w.heap.size w w1) : Wr base g r B most full b w e w' := by
  obtain ⟨h1, h2, r', h3, h4⟩ := h
  refine ⟨h1, (Touch.of_below hb).trans Next.refl h2, r', ?_, h4⟩
  exact Next.refl.trans hb.size h3
theorem RWrt.from_ {base g : Nat} {r : Option Nat} {B : List UInt8} {most : Int} {full : Bool} {b : List UInt8} {w w1 : World} {e : Ending} {w' : World} (h : RWrt base g r B most full b w1 e w') (hb : Below w.heap.size w w1) : RWrt base g r B most full b w e w' := by
  obtain ⟨h1, h2, r', h3, h4⟩ := h
  refine ⟨h1, (Touch.of_below hb).trans Next.refl h2, r', ?_, h4⟩
  exact Next.refl.trans hb.size h3
end Go.Proofs.Ytnkkhplddjopnaa
