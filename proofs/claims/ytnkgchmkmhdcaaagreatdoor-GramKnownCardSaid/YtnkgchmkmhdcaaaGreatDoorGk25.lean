/- Part 25 of the walks, merged: each text under its own heading. Conditions: none of its own; each lemma states what it asks. -/
import Derived.Test.YtnkgchmkmhdcaaaGreatDoorGk11
import Derived.Test.YtnkgchmkmhdcaaaGreatDoorGk16
import Derived.Test.YtnkgchmkmhdcaaaGreatDoorGk21
import Derived.Test.YtnkgchmkmhdcaaaGreatDoorGk24
set_option linter.unusedVariables false
set_option linter.unusedSimpArgs false
namespace Go.Proofs.YtnkgchmkmhdcaaaGreatDoor
open Go.RowKit
theorem sizeV_ok {cs : List Co} {b : Ba} (h : batE cs b = 0) : sizeV cs b = ((encA cs b).length : Int) := by unfold sizeV; rw [if_pos h]
theorem sizeV_no {cs : List Co} {b : Ba} (h : batE cs b ≠ 0) : sizeV cs b = 0 := by unfold sizeV; rw [if_neg h]
theorem whereV_ok {cs : List Co} {b : Ba} (h : batE cs b = 0) (xs : List UInt8) : whereV cs b xs = ((lcp (encA cs b) xs : Nat) : Int) := by unfold whereV; rw [if_pos h]
theorem whereV_no {cs : List Co} {b : Ba} (h : batE cs b ≠ 0) (xs : List UInt8) : whereV cs b xs = 0 := by unfold whereV; rw [if_neg h]
theorem matchV_ok {cs : List Co} {b : Ba} (h : batE cs b = 0) (xs : List UInt8) : matchV cs b xs = if encA cs b = xs then 0 else 4 := by unfold matchV; rw [if_pos h]
theorem matchV_no {cs : List Co} {b : Ba} (h : batE cs b ≠ 0) (xs : List UInt8) : matchV cs b xs = batE cs b := by unfold matchV; rw [if_neg h]
theorem lcp_at {a b : List UInt8} {i : Nat} (hi : i < lcp a b) : ∃ q, a[i]? = some q ∧ b[i]? = some q := by
 have h1 := lcp_le a b
 have h2 := congrArg (fun l => l[i]?) (lcp_take a b)
 simp only [List.getElem?_take, if_pos hi] at h2
 have h3 : i < a.length := by omega
 exact ⟨a[i], List.getElem?_eq_getElem h3, by rw [← h2]; exact List.getElem?_eq_getElem h3⟩
theorem lcp_end (a b : List UInt8) : lcp a b = b.length ∨ lcp a b = a.length ∨ ∃ p q, a[lcp a b]? = some p ∧ b[lcp a b]? = some q ∧ p ≠ q := by
 have h1 := lcp_le a b
 by_cases hb : lcp a b = b.length
 ·exact .inl hb
 ·by_cases ha : lcp a b = a.length
  ·exact .inr (.inl ha)
  ·have e1 : lcp a b < a.length := by omega
   have e2 : lcp a b < b.length := by omega
   exact .inr (.inr ⟨_, _, List.getElem?_eq_getElem e1, List.getElem?_eq_getElem e2, lcp_next a b _ _ (List.getElem?_eq_getElem e1) (List.getElem?_eq_getElem e2)⟩)
theorem match_self {cs : List Co} {b : Ba} (h : batE cs b = 0) : matchV cs b (encA cs b) = 0 := by rw [matchV_ok h, if_pos rfl]
theorem match_dec_err {cs : List Co} {xs : List UInt8} {er : Nat} {b : Ba} (h : decB cs xs = .error er) (hb : BaOk b) : (matchV cs b xs == 0) = false := by
 by_cases hE : batE cs b = 0
 ·rw [matchV_ok hE, if_neg (fun e => by
   have := ((fits_iff _ _).1 hE).back hb
   rw [e, h] at this
   cases this)]
  rfl
 ·rw [matchV_no hE]
  simpa using hE
theorem match_dec_ok {cs : List Co} {xs : List UInt8} {b c : Ba} (h : decB cs xs = .ok c) (hb : BaOk b) : matchV cs c xs = 0 ∧ (matchV cs b xs == 0) = sameBa b c := by
 obtain ⟨hf, hbo, he⟩ := decB_only h
 have hE := (fits_iff cs c).2 hf
 refine ⟨by rw [← he]; exact match_self hE, ?_⟩
 by_cases h2 : b = c
 ·subst h2
  rw [sameBa_self, ← he, match_self hE]
  rfl
 ·rw [sameBa_not h2]
  by_cases hEb : batE cs b = 0
  ·rw [matchV_ok hEb, if_neg (fun e => by
    have := ((fits_iff _ _).1 hEb).back hb
    rw [e, h] at this
    injection this with this
    exact h2 this.symm)]
   rfl
  ·rw [matchV_no hEb]
   simpa using hEb
end Go.Proofs.YtnkgchmkmhdcaaaGreatDoor
namespace Go.Proofs.YtnkgchmkmhdcaaaGreatDoor
open Go.RowKit
def cellT : List (List Cl) := [[(false, 0, ⟨#[]⟩), (false, 1, ⟨#[]⟩), (false, 0, ⟨#[]⟩)], [(false, -2147483648, ⟨#[]⟩), (false, 2147483647, ⟨#[]⟩), (false, 64, ⟨#[]⟩)],
 [(false, -9223372036854775808, ⟨#[]⟩), (false, 9223372036854775807, ⟨#[]⟩), (false, -64, ⟨#[]⟩)], [(false, 0, ⟨#[98]⟩), (false, 0, ⟨#[]⟩), (false, 0, ⟨#[98]⟩)], [(false, 0, ⟨#[255, 0]⟩), (false, 0, ⟨#[]⟩), (false, 0, ⟨#[98]⟩)]]
def cellG (k j : Nat) : Cl := ((cellT[k]?.getD [])[j]?).getD nullC
def cellK (k nl i : Nat) : Cl := if nl = 1 ∧ i % 4 = 1 then (true, 0, ⟨#[]⟩) else cellG k (i % 3)
def wtK (i : Nat) : Int := (2 * ((i % 2 : Nat) : Int) - 1) * 2 ^ i
def itK (k nl n : Nat) : List It := (List.range n).map fun i => ([cellK k nl i], wtK i)
def coK (k nl : Nat) : List Co := [(0, ⟨#[]⟩, (k : Int) + 1, nl == 1, false, 0, ⟨#[]⟩)]
theorem itK_succ (k nl n : Nat) : itK k nl (n + 1) = itK k nl n ++ [([cellK k nl n], wtK n)] := by simp [itK, List.range_succ]
theorem coK_ok {k nl : Nat} (hk : k < 5) : CoOk (coK k nl) := by
 intro c hc
 obtain rfl := List.mem_singleton.1 hc
 simp only
 omega
theorem knownB : ((List.range 5).all fun k => (List.range 2).all fun nl => (List.range 21).all fun n => decide (batE (coK k nl) (300, 9223372036854775807, itK k nl n) = 0) && (itK k nl n).all fun it => okB it.1 && decide (-9223372036854775808 ≤ it.2) && decide (it.2 ≤ 9223372036854775807)) = true := by kernel_rfl
theorem known_fits {k nl n : Nat} (hk : k < 5) (hn : nl < 2) (h : n < 21) : batE (coK k nl) (300, 9223372036854775807, itK k nl n) = 0 ∧ ItOk (itK k nl n) := by
 have h1 := List.all_eq_true.1 knownB k (List.mem_range.2 hk)
 have h2 := List.all_eq_true.1 h1 nl (List.mem_range.2 hn)
 have h3 := List.all_eq_true.1 h2 n (List.mem_range.2 h)
 simp only [Bool.and_eq_true, decide_eq_true_eq] at h3
 exact ⟨h3.1, okB_it _ h3.2⟩
theorem blk_row3 {w : World} {g : Nat} {l : List Cl} (h : Blk w g 23 (cls l).toArray) {j : Nat} {u : Bool} {x : Int} {s : ByteArray} (hc : l[j]? = some (u, x, s)) :
  w.cell? ⟨g, j * 3, none⟩ = some (.bool u) ∧ w.cell? ⟨g, j * 3 + 1, none⟩ = some (.int .i64 x) ∧ w.cell? ⟨g, j * 3 + 2, none⟩ = some (.string s) := by
 have key : ∀ q v, [Value.bool u, .int .i64 x, .string s][q]? = some v → (cls l)[j * 3 + q]? = some v := fun q v hv => by
  have hq : q < 3 := (List.getElem?_eq_some_iff.1 hv).1
  rw [cls, flatMap_at _ 3 (fun _ => rfl) l j q (u, x, s) hc hq]
  exact hv
 refine ⟨?_, ?_, ?_⟩
 ·rw [h.cell]; simpa using key 0 _ rfl
 ·rw [h.cell]; simpa using key 1 _ rfl
 ·rw [h.cell]; simpa using key 2 _ rfl
theorem own_cell1 (w : World) (base : Nat) (hb : base ≤ w.heap.size) (u : Bool) (x : Int) (s : ByteArray) : (w.alloc (.cells #[.bool u, .int .i64 x, .string s] 23)).ownsRow base 23 3 (.slice (some ⟨w.heap.size, 0, none⟩) 1 1) 1 (cls [(u, x, s)]) :=
 ⟨rfl, .inr ⟨w.heap.size, 1, _, rfl, hb, Blk.new w 23 _, Nat.le_refl _, by decide, rfl, rfl⟩⟩
structure KnK (w wc : World) : Prop where
 below : Below w.heap.size w wc
 outer : Blk wc (w.heap.size + 5) 24 #[.slice (some ⟨w.heap.size, 0, none⟩) 3 3, .slice (some ⟨w.heap.size + 1, 0, none⟩) 3 3, .slice (some ⟨w.heap.size + 2, 0, none⟩) 3 3, .slice (some ⟨w.heap.size + 3, 0, none⟩) 3 3, .slice (some ⟨w.heap.size + 4, 0, none⟩) 3 3]
 rows : ∀ (k : Nat) l, cellT[k]? = some l → Blk wc (w.heap.size + k) 23 (cls l).toArray
 tab : Tab2 wc.heap.size wc
theorem KnK.on {w wc w' : World} (h : KnK w wc) (hb : Below wc.heap.size wc w') : KnK w w' := ⟨bon h.below hb, h.outer.on hb, fun k l hl => (h.rows k l hl).on hb, h.tab.on hb⟩
theorem KnK.al {w wc : World} (h : KnK w wc) (o : Obj) : KnK w (wc.alloc o) := h.on (bal (Below.refl _ _) o)
theorem KnK.head {w wc : World} (h : KnK w wc) {k : Nat} (hk : k < 5) : wc.cell? ⟨w.heap.size + 5, k, none⟩ = some (.slice (some ⟨w.heap.size + k, 0, none⟩) 3 3) := by
 rw [h.outer.cell]
 rcases (show k = 0 ∨ k = 1 ∨ k = 2 ∨ k = 3 ∨ k = 4 by omega) with rfl | rfl | rfl | rfl | rfl <;> rfl
theorem KnK.cell {w wc : World} (h : KnK w wc) {k j : Nat} (hk : k < 5) (hj : j < 3) : wc.cell? ⟨w.heap.size + k, j * 3, none⟩ = some (.bool (cellG k j).1) ∧ wc.cell? ⟨w.heap.size + k, j * 3 + 1, none⟩ = some (.int .i64 (cellG k j).2.1) ∧ wc.cell? ⟨w.heap.size + k, j * 3 + 2, none⟩ = some (.string (cellG k j).2.2) := by
 obtain ⟨l, hl, hc⟩ : ∃ l, cellT[k]? = some l ∧ l[j]? = some (cellG k j) := by
  rcases (show k = 0 ∨ k = 1 ∨ k = 2 ∨ k = 3 ∨ k = 4 by omega) with rfl | rfl | rfl | rfl | rfl <;> rcases (show j = 0 ∨ j = 1 ∨ j = 2 by omega) with rfl | rfl | rfl <;> exact ⟨_, rfl, rfl⟩
 exact blk_row3 (h.rows k l hl) hc
theorem kn_mem (w : World) (hT : Tab2 w.heap.size w) : ∀ W, W = (((((w.alloc (.cells #[.bool false, .int .i64 0, .string ⟨#[]⟩, .bool false, .int .i64 1, .string ⟨#[]⟩, .bool false, .int .i64 0, .string ⟨#[]⟩] 23)).alloc (.cells #[.bool false, .int .i64 (-2147483648), .string ⟨#[]⟩, .bool false, .int .i64 2147483647, .string ⟨#[]⟩, .bool false, .int .i64 64, .string ⟨#[]⟩] 23)).alloc (.cells #[.bool false, .int .i64 (-9223372036854775808), .string ⟨#[]⟩, .bool false, .int .i64 9223372036854775807, .string ⟨#[]⟩, .bool false, .int .i64 (-64), .string ⟨#[]⟩] 23)).alloc (.cells #[.bool false, .int .i64 0, .string ⟨#[98]⟩, .bool false, .int .i64 0, .string ⟨#[]⟩, .bool false, .int .i64 0, .string ⟨#[98]⟩] 23)).alloc (.cells #[.bool false, .int .i64 0, .string ⟨#[255, 0]⟩, .bool false, .int .i64 0, .string ⟨#[]⟩, .bool false, .int .i64 0, .string ⟨#[98]⟩] 23)).alloc (.cells #[.slice (some ⟨w.heap.size, 0, none⟩) 3 3, .slice (some ⟨w.heap.size + 1, 0, none⟩) 3 3, .slice (some ⟨w.heap.size + 2, 0, none⟩) 3 3, .slice (some ⟨w.heap.size + 3, 0, none⟩) 3 3, .slice (some ⟨w.heap.size + 4, 0, none⟩) 3 3] 24) → KnK w W := by
 intro W hW
 obtain ⟨W1, h1⟩ : ∃ W1, W1 = w.alloc (.cells #[.bool false, .int .i64 0, .string ⟨#[]⟩, .bool false, .int .i64 1, .string ⟨#[]⟩, .bool false, .int .i64 0, .string ⟨#[]⟩] 23) := ⟨_, rfl⟩
 obtain ⟨W2, h2⟩ : ∃ W2, W2 = W1.alloc (.cells #[.bool false, .int .i64 (-2147483648), .string ⟨#[]⟩, .bool false, .int .i64 2147483647, .string ⟨#[]⟩, .bool false, .int .i64 64, .string ⟨#[]⟩] 23) := ⟨_, rfl⟩
 obtain ⟨W3, h3⟩ : ∃ W3, W3 = W2.alloc (.cells #[.bool false, .int .i64 (-9223372036854775808), .string ⟨#[]⟩, .bool false, .int .i64 9223372036854775807, .string ⟨#[]⟩, .bool false, .int .i64 (-64), .string ⟨#[]⟩] 23) := ⟨_, rfl⟩
 obtain ⟨W4, h4⟩ : ∃ W4, W4 = W3.alloc (.cells #[.bool false, .int .i64 0, .string ⟨#[98]⟩, .bool false, .int .i64 0, .string ⟨#[]⟩, .bool false, .int .i64 0, .string ⟨#[98]⟩] 23) := ⟨_, rfl⟩
 obtain ⟨W5, h5⟩ : ∃ W5, W5 = W4.alloc (.cells #[.bool false, .int .i64 0, .string ⟨#[255, 0]⟩, .bool false, .int .i64 0, .string ⟨#[]⟩, .bool false, .int .i64 0, .string ⟨#[98]⟩] 23) := ⟨_, rfl⟩
 rw [← h1, ← h2, ← h3, ← h4, ← h5] at hW
 have s1 : W1.heap.size = w.heap.size + 1 := by rw [h1]; simp
 have s2 : W2.heap.size = w.heap.size + 2 := by rw [h2]; simp [s1]
 have s3 : W3.heap.size = w.heap.size + 3 := by rw [h3]; simp [s2]
 have s4 : W4.heap.size = w.heap.size + 4 := by rw [h4]; simp [s3]
 have s5 : W5.heap.size = w.heap.size + 5 := by rw [h5]; simp [s4]
 have B1 : Blk W1 (w.heap.size + 0) 23 #[.bool false, .int .i64 0, .string ⟨#[]⟩, .bool false, .int .i64 1, .string ⟨#[]⟩, .bool false, .int .i64 0, .string ⟨#[]⟩] := by rw [h1]; exact Blk.new _ _ _
 have B2 : Blk W2 (w.heap.size + 1) 23 #[.bool false, .int .i64 (-2147483648), .string ⟨#[]⟩, .bool false, .int .i64 2147483647, .string ⟨#[]⟩, .bool false, .int .i64 64, .string ⟨#[]⟩] := by rw [h2, ← s1]; exact Blk.new _ _ _
 have B3 : Blk W3 (w.heap.size + 2) 23 #[.bool false, .int .i64 (-9223372036854775808), .string ⟨#[]⟩, .bool false, .int .i64 9223372036854775807, .string ⟨#[]⟩, .bool false, .int .i64 (-64), .string ⟨#[]⟩] := by rw [h3, ← s2]; exact Blk.new _ _ _
 have B4 : Blk W4 (w.heap.size + 3) 23 #[.bool false, .int .i64 0, .string ⟨#[98]⟩, .bool false, .int .i64 0, .string ⟨#[]⟩, .bool false, .int .i64 0, .string ⟨#[98]⟩] := by rw [h4, ← s3]; exact Blk.new _ _ _
 have B5 : Blk W5 (w.heap.size + 4) 23 #[.bool false, .int .i64 0, .string ⟨#[255, 0]⟩, .bool false, .int .i64 0, .string ⟨#[]⟩, .bool false, .int .i64 0, .string ⟨#[98]⟩] := by rw [h5, ← s4]; exact Blk.new _ _ _
 have BO : Blk W (w.heap.size + 5) 24 #[.slice (some ⟨w.heap.size, 0, none⟩) 3 3, .slice (some ⟨w.heap.size + 1, 0, none⟩) 3 3, .slice (some ⟨w.heap.size + 2, 0, none⟩) 3 3, .slice (some ⟨w.heap.size + 3, 0, none⟩) 3 3, .slice (some ⟨w.heap.size + 4, 0, none⟩) 3 3] := by rw [hW, ← s5]; exact Blk.new _ _ _
 have b5 : Below W5.heap.size W5 W := by rw [hW]; exact bal (Below.refl _ _) _
 have b4 : Below W4.heap.size W4 W := bon (by rw [h5]; exact bal (Below.refl _ _) _) b5
 have b3 : Below W3.heap.size W3 W := bon (by rw [h4]; exact bal (Below.refl _ _) _) b4
 have b2 : Below W2.heap.size W2 W := bon (by rw [h3]; exact bal (Below.refl _ _) _) b3
 have b1 : Below W1.heap.size W1 W := bon (by rw [h2]; exact bal (Below.refl _ _) _) b2
 have b0 : Below w.heap.size w W := bon (by rw [h1]; exact bal (Below.refl _ _) _) b1
 refine ⟨b0, BO, fun k l hl => ?_, hT.on b0⟩
 have hk : k < 5 := (List.getElem?_eq_some_iff.1 hl).1
 rcases (show k = 0 ∨ k = 1 ∨ k = 2 ∨ k = 3 ∨ k = 4 by omega) with rfl | rfl | rfl | rfl | rfl
 ·obtain rfl := Option.some.inj hl; exact B1.on b1
 ·obtain rfl := Option.some.inj hl; exact B2.on b2
 ·obtain rfl := Option.some.inj hl; exact B3.on b3
 ·obtain rfl := Option.some.inj hl; exact B4.on b4
 ·obtain rfl := Option.some.inj hl; exact B5.on b5
theorem sh_run (i : Nat) (hi : i < 20) (w : World) : Sem.run Tryz.prog (Op.shift .shl .i64 (IntKind.i64.wrap (IntKind.i64.wrap (2 * ((i : Int).tmod 2)) - 1)) .i64 ((i : Int).tmod 63)) w = .ok (.int .i64 (wtK i)) w := by
 rcases (show i = 0 ∨ i = 1 ∨ i = 2 ∨ i = 3 ∨ i = 4 ∨ i = 5 ∨ i = 6 ∨ i = 7 ∨ i = 8 ∨ i = 9 ∨ i = 10 ∨ i = 11 ∨ i = 12 ∨ i = 13 ∨ i = 14 ∨ i = 15 ∨ i = 16 ∨ i = 17 ∨ i = 18 ∨ i = 19 by omega) with rfl | rfl | rfl | rfl | rfl | rfl | rfl | rfl | rfl | rfl | rfl | rfl | rfl | rfl | rfl | rfl | rfl | rfl | rfl | rfl <;> rfl
end Go.Proofs.YtnkgchmkmhdcaaaGreatDoor
namespace Go.Proofs.YtnkgchmkmhdcaaaGreatDoor
open Go.RowKit
theorem grown_trans {w w1 w2 : World} {r : Option Nat} (h : w.grownBy w1 r) (h2 : w1.grownBy w2 r) : w.grownBy w2 r :=
 ⟨h2.os.trans h.os, h2.tape.trans h.tape, h2.output.trans h.output, Nat.le_trans h.size h2.size, fun k hk hne => (h2.block k (Nat.lt_of_lt_of_le hk h.size) hne).trans (h.block k hk hne)⟩
theorem grown_of_below {w w1 : World} {r : Option Nat} (h : Below w.heap.size w w1) : w.grownBy w1 r := ⟨h.os, h.tape, h.output, h.size, fun k hk _ => h.block k hk⟩
theorem crcS_lt (xs : List UInt8) : crcS xs < 4294967296 := crcU_lt 0 xs
theorem crcS_nil : crcS [] = 0 := by decide
structure Wk (w : World) (g : Nat) (X : Option Addr) (xn xc : Nat) (xs bs : List UInt8) : Prop where
 blk : Blk w g 163 #[.slice X xn xc, .int .i64 ((lcp bs xs : Nat) : Int), .int .i64 ((bs.length : Nat) : Int), .bool (decide (lcp bs xs < bs.length)), .int .u32 ((crcS bs : Nat) : Int)]
 rd : Reads w g 1 X xn (u8s xs)
 max : xn ≤ maxLen
section
variable {w w1 w' : World} {g : Nat} {X : Option Addr} {xn xc : Nat} {xs bs : List UInt8}
theorem Wk.on (h : Wk w g X xn xc xs bs) (hb : Below w.heap.size w w') : Wk w' g X xn xc xs bs := ⟨h.blk.on hb, h.rd.below (hb.mono (Nat.le_of_lt h.blk.lt)), h.max⟩
theorem Wk.al (h : Wk w g X xn xc xs bs) (o : Obj) : Wk (w.alloc o) g X xn xc xs bs := h.on (bal (Below.refl _ _) o)
theorem Wk.drew (h : Wk w g X xn xc xs bs) : Wk w.drew g X xn xc xs bs := ⟨h.blk, h.rd, h.max⟩
theorem Wk.len (h : Wk w g X xn xc xs bs) : xs.length = xn := by have := h.rd.1; simpa [u8s] using this
end
def WalkP (g : Nat) (X : Option Addr) (xn xc : Nat) (xs pre out : List UInt8) (w : World) (e : Ending) (w' : World) : Prop :=
 e = .returned (.tuple #[]) ∧ Wk w' g X xn xc xs (pre ++ out) ∧ w.grownBy w' (some g)
section
variable {w w1 w' : World} {e : Ending} {g : Nat} {X : Option Addr} {xn xc : Nat} {xs pre out out2 : List UInt8}
theorem WalkP.none_ (h : Wk w' g X xn xc xs pre) (hg : w.grownBy w' (some g)) : WalkP g X xn xc xs pre [] w (.returned (.tuple #[])) w' := ⟨rfl, by rw [List.append_nil]; exact h, hg⟩
theorem WalkP.after (hg : w.grownBy w1 (some g)) (h : WalkP g X xn xc xs (pre ++ out) out2 w1 e w') : WalkP g X xn xc xs pre (out ++ out2) w e w' :=
 ⟨h.1, by rw [← List.append_assoc]; exact h.2.1, grown_trans hg h.2.2⟩
theorem WalkP.ahead (hg : w.grownBy w1 (some g)) (h : WalkP g X xn xc xs pre out w1 e w') : WalkP g X xn xc xs pre out w e w' := ⟨h.1, h.2.1, grown_trans hg h.2.2⟩
end
theorem lcp_off {bs xs : List UInt8} (c : UInt8) (h : lcp bs xs < bs.length) : lcp (bs ++ [c]) xs = lcp bs xs ∧ decide (lcp (bs ++ [c]) xs < (bs ++ [c]).length) = true := by
 have h1 := lcp_stuck bs xs [c] h
 refine ⟨h1, ?_⟩
 rw [h1]
 simp
 omega
theorem lcp_hit {bs xs : List UInt8} {c : UInt8} (h : lcp bs xs = bs.length) (hc : xs[bs.length]? = some c) : lcp (bs ++ [c]) xs = lcp bs xs + 1 ∧ decide (lcp (bs ++ [c]) xs < (bs ++ [c]).length) = false := by
 have h1 := lcp_whole bs xs c h
 rw [if_pos hc] at h1
 refine ⟨by omega, ?_⟩
 rw [h1]
 simp
theorem lcp_miss {bs xs : List UInt8} {c : UInt8} (h : lcp bs xs = bs.length) (hc : xs[bs.length]? ≠ some c) : lcp (bs ++ [c]) xs = lcp bs xs ∧ decide (lcp (bs ++ [c]) xs < (bs ++ [c]).length) = true := by
 have h1 := lcp_whole bs xs c h
 rw [if_neg hc] at h1
 refine ⟨by omega, ?_⟩
 rw [h1]
 simp
end Go.Proofs.YtnkgchmkmhdcaaaGreatDoor
namespace Go.Proofs.YtnkgchmkmhdcaaaGreatDoor
open Go.RowKit
theorem wk_mk {w : World} {g : Nat} {X : Option Addr} {xn xc : Nat} {xs bs : List UInt8} {a k s : Nat} {o : Bool} (hb : Blk w g 163 #[.slice X xn xc, .int .i64 (a : Int), .int .i64 (k : Int), .bool o, .int .u32 (s : Int)]) (hr : Reads w g 1 X xn (u8s xs)) (hm : xn ≤ maxLen)
  (h1 : lcp bs xs = a) (h2 : bs.length = k) (h3 : decide (lcp bs xs < bs.length) = o) (h4 : crcS bs = s) : Wk w g X xn xc xs bs := by
 refine ⟨?_, hr, hm⟩
 rw [h3, h1, h2, h4]
 exact hb
set_option maxRecDepth 100000 in
set_option maxHeartbeats 2000000 in
theorem ris_any (g : Nat) (X : Option Addr) (xn xc : Nat) (xs pre : List UInt8) (c : UInt8) (b : Int) (hb : b = (c.toNat : Int)) (w : World) (h : Wk w g X xn xc xs pre) (hl : pre.length < 4611686018427387904) :
  Calls Tryz.prog 192 #[.pointer (some ⟨g, 0, none⟩), .int .u8 b] w (WalkP g X xn xc xs pre [c] w) := by
 subst hb
 have hxl := h.len
 have h1 := lcp_le1 pre xs
 have h2 := lcp_le2 pre xs
 have Hx := Lib.hid hxl
 have HW := Lib.hid h
 have hB := h.blk
 have hlt := h.blk.lt
 obtain ⟨a, ha⟩ : ∃ a, lcp pre xs = a := ⟨_, rfl⟩
 obtain ⟨k, hk⟩ : ∃ k, pre.length = k := ⟨_, rfl⟩
 obtain ⟨o, ho⟩ : ∃ o, decide (a < k) = o := ⟨_, rfl⟩
 obtain ⟨s, hs⟩ : ∃ s, crcS pre = s := ⟨_, rfl⟩
 rw [ha, hk, ho, hs] at hB
 rw [ha, hxl] at h2
 rw [ha, hk] at h1
 rw [hk] at hl
 have hs2 : s < 4294967296 := by rw [← hs]; exact crcS_lt _
 have Ha := Lib.hid ha
 have Hk := Lib.hid hk
 have Ho := Lib.hid ho
 have Hs := Lib.hid hs
 have HB := Lib.hid hB
 have hxm := h.max
 have Hs' := Lib.hid (show crcS (pre ++ [c]) = crcU s [c] by rw [crcS_snoc, hs])
 clear ha hk ho hs h hxl
 have b4 := hB.cell 4
 have f4 := hB.frozen 4
 clear hB
 go_enter Tryz.func192, Tryz.ntmps192
 go_wp2_with fail
 refine (rupdate_any s hs2 (some ⟨w.heap.size, 0, none⟩) 1 1 [c] _ (by exact reads_lit _ _ _ _ _ _ rfl rfl rfl) (by decide)).mono ?_
 rintro e w2 ⟨rfl, rfl⟩
 obtain ⟨L, hL⟩ : ∃ L : Obj, L = .cells #[.int .u8 (c.toNat : Int)] 5 := ⟨_, rfl⟩
 have HWa := Lib.hid (HW.out.al L)
 have HBa := Lib.hid (HB.out.alloc L)
 rw [← hL]
 have Hga := Lib.hid (grown_of_below (r := some g) (bal (Below.refl _ _) L) : w.grownBy (w.alloc L) (some g))
 generalize w.alloc L = W at *
 have c4 := HBa.out.cell 4
 have k4 := HBa.out.frozen 4
 clear b4 hL f4
 obtain ⟨s2, hs2'⟩ : ∃ s2, crcU s [c] = s2 := ⟨_, rfl⟩
 rw [hs2'] at Hs' ⊢
 clear hs2'
 have B1 := HBa.out.set_ 4 (.int .u32 (s2 : Int))
 simp only [List.setIfInBounds_toArray, List.set_cons_succ, List.set_cons_zero] at B1
 have B2 := B1.set_ 2 (.int .i64 ((k : Int) + 1))
 simp only [List.setIfInBounds_toArray, List.set_cons_succ, List.set_cons_zero] at B2
 have c2 := B1.cell 2
 have f2 := B1.frozen 2
 have HB2 := Lib.hid B2
 have Hg2 := Lib.hid (grown_trans Hga.out (grown_trans (grown_set W g 4 (.int .u32 (s2 : Int))) (grown_set _ g 2 (.int .i64 ((k : Int) + 1)))))
 have HR2 := Lib.hid ((HWa.out.rd.setCell (p := ⟨g, 4, none⟩) (Nat.le_refl _) (.int .u32 (s2 : Int))).setCell (p := ⟨g, 2, none⟩) (Nat.le_refl _) (.int .i64 ((k : Int) + 1)))
 clear B1 B2
 go_wp2
 generalize (W.setCell ⟨g, 4, none⟩ (.int .u32 (s2 : Int))).setCell ⟨g, 2, none⟩ (.int .i64 ((k : Int) + 1)) = W2 at *
 clear c4 k4 c2 f2 HWa HBa Hga
 have hS : W2.drew = W2.drew := rfl
 have HX := Lib.hid (show ∀ w', w' = W2.drew → w'.cell? ⟨g, 0, none⟩ = some (.slice X xn xc) from fun w' h => by rw [h]; exact HB2.out.drew.cell 0)
 have HA := Lib.hid (show ∀ w', w' = W2.drew → w'.cell? ⟨g, 1, none⟩ = some (.int .i64 (a : Int)) from fun w' h => by rw [h]; exact HB2.out.drew.cell 1)
 have HO := Lib.hid (show ∀ w', w' = W2.drew → w'.cell? ⟨g, 3, none⟩ = some (.bool o) from fun w' h => by rw [h]; exact HB2.out.drew.cell 3)
 have B3 := HB2.out.drew.set_ 3 (.bool true)
 simp only [List.setIfInBounds_toArray, List.set_cons_succ, List.set_cons_zero] at B3
 have HB3 := Lib.hid B3
 have Hg3 := Lib.hid (grown_trans Hg2.out (grown_trans (grown_drew W2 (some g)) (grown_set W2.drew g 3 (.bool true))))
 have HR3 := Lib.hid ((HR2.out.drew).setCell (p := ⟨g, 3, none⟩) (Nat.le_refl _) (.bool true))
 clear B3
 have s3 := HB2.out.drew.cell 3
 have t3 := HB2.out.drew.frozen 3
 cases o with
 | true =>
  have hlo : a < k := of_decide_eq_true Ho.out
  obtain ⟨q1, q2⟩ := lcp_off (bs := pre) (xs := xs) c (by rw [Ha.out, Hk.out]; exact hlo)
  have HF := Lib.hid (show Wk (W2.drew.setCell ⟨g, 3, none⟩ (.bool true)) g X xn xc xs (pre ++ [c]) from wk_mk HB3.out HR3.out hxm (by rw [q1, Ha.out]) (by rw [List.length_append, Hk.out]; rfl) q2 Hs'.out)
  clear q1 q2 hlo
  refine wp_region_keep (fun w' => w' = W2.drew) [(0, false), (1, false), (2, false), (3, false), (4, false), (5, false), (6, false), (7, false), (8, false), (9, false), (10, false), (11, false), (12, false), (13, false), (14, false), (15, false), (16, false), (17, false), (18, false), (19, false), (20, false), (21, false), (22, false), (23, false), (24, false), (25, false), (26, false), (27, false), (28, false), (29, false)] (by kernel_rfl) (by kernel_rfl) (by kernel_rfl) (fun d _ _ _ _ h => by cases d <;> exact h) ?_
  iterate 3
   refine held_pure (v := ?_) rfl rfl (by simp [Region.wanted, yielded]) hS ?_ ?_
   rotate_left
   ·intro w hw; go_simp; try with_reducible rfl
   try simp only [Act.put, zpA, zpB, zpC]
  refine held_pure (v := ?_) rfl rfl (by simp [Region.wanted, yielded]) hS ?_ ?_
  rotate_left
  ·intro w hw; have c0 := HO.out w hw; clear hw; go_simp; try with_reducible rfl
  try simp only [Act.put, zpA, zpB, zpC]
  refine held_pure (v := ?_) rfl rfl (by simp [Region.wanted, yielded]) hS ?_ ?_
  rotate_left
  ·intro w hw; go_simp; try with_reducible rfl
  try simp only [Act.put, zpA, zpB, zpC]
  refine held_off rfl rfl (by simp [Region.wanted, yielded, undef]) hS ?_
  simp only [Act.put, zpA, zpB, zpC]
  refine held_off rfl rfl (by simp [Region.wanted, yielded, undef]) hS ?_
  simp only [Act.put, zpA, zpB, zpC]
  refine held_off rfl rfl (by simp [Region.wanted, yielded, undef]) hS ?_
  simp only [Act.put, zpA, zpB, zpC]
  refine held_off rfl rfl (by simp [Region.wanted, yielded, undef]) hS ?_
  simp only [Act.put, zpA, zpB, zpC]
  refine held_off rfl rfl (by simp [Region.wanted, yielded, undef]) hS ?_
  simp only [Act.put, zpA, zpB, zpC]
  refine held_off rfl rfl (by simp [Region.wanted, yielded, undef]) hS ?_
  simp only [Act.put, zpA, zpB, zpC]
  refine held_off rfl rfl (by simp [Region.wanted, yielded, undef]) hS ?_
  simp only [Act.put, zpA, zpB, zpC]
  refine held_off rfl rfl (by simp [Region.wanted, yielded, undef]) hS ?_
  simp only [Act.put, zpA, zpB, zpC]
  refine held_off rfl rfl (by simp [Region.wanted, yielded, undef]) hS ?_
  simp only [Act.put, zpA, zpB, zpC]
  refine held_off rfl rfl (by simp [Region.wanted, yielded, undef]) hS ?_
  simp only [Act.put, zpA, zpB, zpC]
  iterate 2
   refine held_pure (v := ?_) rfl rfl (by simp [Region.wanted, yielded]) hS ?_ ?_
   rotate_left
   ·intro w hw; go_simp; try with_reducible rfl
   try simp only [Act.put, zpA, zpB, zpC]
  refine held_off rfl rfl (by simp [Region.wanted, yielded, undef]) hS ?_
  simp only [Act.put, zpA, zpB, zpC]
  refine held_off rfl rfl (by simp [Region.wanted, yielded, undef]) hS ?_
  simp only [Act.put, zpA, zpB, zpC]
  refine held_off rfl rfl (by simp [Region.wanted, yielded, undef]) hS ?_
  simp only [Act.put, zpA, zpB, zpC]
  refine held_off rfl rfl (by simp [Region.wanted, yielded, undef]) hS ?_
  simp only [Act.put, zpA, zpB, zpC]
  refine held_off rfl rfl (by simp [Region.wanted, yielded, undef]) hS ?_
  simp only [Act.put, zpA, zpB, zpC]
  refine held_off rfl rfl (by simp [Region.wanted, yielded, undef]) hS ?_
  simp only [Act.put, zpA, zpB, zpC]
  refine held_off rfl rfl (by simp [Region.wanted, yielded, undef]) hS ?_
  simp only [Act.put, zpA, zpB, zpC]
  refine held_off rfl rfl (by simp [Region.wanted, yielded, undef]) hS ?_
  simp only [Act.put, zpA, zpB, zpC]
  refine held_off rfl rfl (by simp [Region.wanted, yielded, undef]) hS ?_
  simp only [Act.put, zpA, zpB, zpC]
  refine held_off rfl rfl (by simp [Region.wanted, yielded, undef]) hS ?_
  simp only [Act.put, zpA, zpB, zpC]
  refine held_off rfl rfl (by simp [Region.wanted, yielded, undef]) hS ?_
  simp only [Act.put, zpA, zpB, zpC]
  refine held_off rfl rfl (by simp [Region.wanted, yielded, undef]) hS ?_
  simp only [Act.put, zpA, zpB, zpC]
  refine held_pure (v := ?_) rfl rfl (by simp [Region.wanted, yielded]) hS ?_ ?_
  rotate_left
  ·intro w hw; go_simp; try with_reducible rfl
  try simp only [Act.put, zpA, zpB, zpC]
  refine held_end ?_
  go_wp2
  ((try simp only [Exit.inBlock, Exit.then]); refine bodyPost_ret (results_none rfl _ _ _) rfl ?_)
  exact ⟨rfl, HF.out, Hg3.out⟩
 | false =>
  have hak : a = k := by have := of_decide_eq_false Ho.out; omega
  have hlk : lcp pre xs = pre.length := by rw [Ha.out, Hk.out, hak]
  by_cases hax : xn ≤ a
  ·have d1 : decide ((xn : Int) ≤ (a : Int)) = true := by simp; omega
   obtain ⟨q1, q2⟩ := lcp_miss (bs := pre) (xs := xs) (c := c) hlk (by rw [List.getElem?_eq_none (by rw [Hx.out, Hk.out, ← hak]; exact hax)]; simp)
   have HF := Lib.hid (show Wk (W2.drew.setCell ⟨g, 3, none⟩ (.bool true)) g X xn xc xs (pre ++ [c]) from wk_mk HB3.out HR3.out hxm (by rw [q1, Ha.out]) (by rw [List.length_append, Hk.out]; rfl) q2 Hs'.out)
   clear q1 q2 hlk hak
   refine wp_region_keep (fun w' => w' = W2.drew) [(0, false), (1, false), (2, false), (3, false), (4, false), (5, false), (6, false), (7, false), (8, false), (9, false), (10, false), (11, false), (12, false), (13, false), (14, false), (15, false), (16, false), (17, false), (18, false), (19, false), (20, false), (21, false), (22, false), (23, false), (24, false), (25, false), (26, false), (27, false), (28, false), (29, false)] (by kernel_rfl) (by kernel_rfl) (by kernel_rfl) (fun d _ _ _ _ h => by cases d <;> exact h) ?_
   iterate 3
    refine held_pure (v := ?_) rfl rfl (by simp [Region.wanted, yielded]) hS ?_ ?_
    rotate_left
    ·intro w hw; go_simp; try with_reducible rfl
    try simp only [Act.put, zpA, zpB, zpC]
   refine held_pure (v := ?_) rfl rfl (by simp [Region.wanted, yielded]) hS ?_ ?_
   rotate_left
   ·intro w hw; have c0 := HO.out w hw; clear hw; go_simp; try with_reducible rfl
   try simp only [Act.put, zpA, zpB, zpC]
   iterate 4
    refine held_pure (v := ?_) rfl rfl (by simp [Region.wanted, yielded]) hS ?_ ?_
    rotate_left
    ·intro w hw; go_simp; try with_reducible rfl
    try simp only [Act.put, zpA, zpB, zpC]
   refine held_pure (v := ?_) rfl rfl (by simp [Region.wanted, yielded]) hS ?_ ?_
   rotate_left
   ·intro w hw; have c0 := HA.out w hw; clear hw; go_simp; try with_reducible rfl
   try simp only [Act.put, zpA, zpB, zpC]
   iterate 3
    refine held_pure (v := ?_) rfl rfl (by simp [Region.wanted, yielded]) hS ?_ ?_
    rotate_left
    ·intro w hw; go_simp; try with_reducible rfl
    try simp only [Act.put, zpA, zpB, zpC]
   refine held_pure (v := ?_) rfl rfl (by simp [Region.wanted, yielded]) hS ?_ ?_
   rotate_left
   ·intro w hw; have c0 := HX.out w hw; clear hw; go_simp; try with_reducible rfl
   try simp only [Act.put, zpA, zpB, zpC]
   iterate 4
    refine held_pure (v := ?_) rfl rfl (by simp [Region.wanted, yielded]) hS ?_ ?_
    rotate_left
    ·intro w hw; go_simp; try with_reducible rfl
    try simp only [Act.put, zpA, zpB, zpC]
   refine held_off rfl rfl (by simp [Region.wanted, yielded, undef]) hS ?_
   simp only [Act.put, zpA, zpB, zpC]
   refine held_off rfl rfl (by simp [Region.wanted, yielded, undef]) hS ?_
   simp only [Act.put, zpA, zpB, zpC]
   refine held_off rfl rfl (by simp [Region.wanted, yielded, undef]) hS ?_
   simp only [Act.put, zpA, zpB, zpC]
   refine held_off rfl rfl (by simp [Region.wanted, yielded, undef]) hS ?_
   simp only [Act.put, zpA, zpB, zpC]
   refine held_off rfl rfl (by simp [Region.wanted, yielded, undef]) hS ?_
   simp only [Act.put, zpA, zpB, zpC]
   refine held_off rfl rfl (by simp [Region.wanted, yielded, undef]) hS ?_
   simp only [Act.put, zpA, zpB, zpC]
   refine held_off rfl rfl (by simp [Region.wanted, yielded, undef]) hS ?_
   simp only [Act.put, zpA, zpB, zpC]
   refine held_off rfl rfl (by simp [Region.wanted, yielded, undef]) hS ?_
   simp only [Act.put, zpA, zpB, zpC]
   refine held_off rfl rfl (by simp [Region.wanted, yielded, undef]) hS ?_
   simp only [Act.put, zpA, zpB, zpC]
   refine held_off rfl rfl (by simp [Region.wanted, yielded, undef]) hS ?_
   simp only [Act.put, zpA, zpB, zpC]
   refine held_off rfl rfl (by simp [Region.wanted, yielded, undef]) hS ?_
   simp only [Act.put, zpA, zpB, zpC]
   refine held_off rfl rfl (by simp [Region.wanted, yielded, undef]) hS ?_
   simp only [Act.put, zpA, zpB, zpC]
   refine held_pure (v := ?_) rfl rfl (by simp [Region.wanted, yielded]) hS ?_ ?_
   rotate_left
   ·intro w hw; go_simp; try with_reducible rfl
   try simp only [Act.put, zpA, zpB, zpC]
   refine held_end ?_
   go_wp2
   ((try simp only [Exit.inBlock, Exit.then]); refine bodyPost_ret (results_none rfl _ _ _) rfl ?_)
   exact ⟨rfl, HF.out, Hg3.out⟩
  ·have d1 : decide ((xn : Int) ≤ (a : Int)) = false := by simp; omega
   have e1 : (a : Int) < (xn : Int) := by omega
   obtain ⟨ad, u, rfl, hbk, hu, c1⟩ := HR2.out.drew.at_ (k := a) (by omega)
   obtain ⟨x, hx, rfl⟩ := u8s_get _ _ _ hu
   have HE := Lib.hid (show ∀ w', w' = W2.drew → w'.cell? (ad.add a) = some (.int .u8 (x.toNat : Int)) from fun w' h => by rw [h]; exact c1)
   by_cases hc : c = x
   ·subst hc
    have d2 : ((c.toNat : Int) != (c.toNat : Int)) = false := by simp
    obtain ⟨q1, q2⟩ := lcp_hit (bs := pre) (xs := xs) (c := c) hlk (by rw [Hk.out, ← hak]; exact hx)
    have B4 := HB2.out.drew.set_ 1 (.int .i64 ((a : Int) + 1))
    simp only [List.setIfInBounds_toArray, List.set_cons_succ, List.set_cons_zero] at B4
    have HR4 := Lib.hid ((HR2.out.drew).setCell (p := ⟨g, 1, none⟩) (Nat.le_refl _) (.int .i64 ((a : Int) + 1)))
    have Hg4 := Lib.hid (grown_trans Hg2.out (grown_trans (grown_drew W2 (some g)) (grown_set W2.drew g 1 (.int .i64 ((a : Int) + 1)))))
    have HF := Lib.hid (show Wk (W2.drew.setCell ⟨g, 1, none⟩ (.int .i64 ((a : Int) + 1))) g (some ad) xn xc xs (pre ++ [c]) from wk_mk (a := a + 1) (k := k + 1) B4 HR4.out hxm (by rw [q1, Ha.out]) (by rw [List.length_append, Hk.out]; rfl) q2 Hs'.out)
    have s1 := HB2.out.drew.cell 1
    have t1 := HB2.out.drew.frozen 1
    clear q1 q2 hlk hak hu hx c1 B4 s3 t3
    refine wp_region_keep (fun w' => w' = W2.drew) [(0, false), (1, false), (2, false), (3, false), (4, false), (5, false), (6, false), (7, false), (8, false), (9, false), (10, false), (11, false), (12, false), (13, false), (14, false), (15, false), (16, false), (17, false), (18, false), (19, false), (20, false), (21, false), (22, false), (23, false), (24, false), (25, false), (26, false), (27, false), (28, false), (29, false)] (by kernel_rfl) (by kernel_rfl) (by kernel_rfl) (fun d _ _ _ _ h => by cases d <;> exact h) ?_
    iterate 3
     refine held_pure (v := ?_) rfl rfl (by simp [Region.wanted, yielded]) hS ?_ ?_
     rotate_left
     ·intro w hw; go_simp; try with_reducible rfl
     try simp only [Act.put, zpA, zpB, zpC]
    refine held_pure (v := ?_) rfl rfl (by simp [Region.wanted, yielded]) hS ?_ ?_
    rotate_left
    ·intro w hw; have c0 := HO.out w hw; clear hw; go_simp; try with_reducible rfl
    try simp only [Act.put, zpA, zpB, zpC]
    iterate 4
     refine held_pure (v := ?_) rfl rfl (by simp [Region.wanted, yielded]) hS ?_ ?_
     rotate_left
     ·intro w hw; go_simp; try with_reducible rfl
     try simp only [Act.put, zpA, zpB, zpC]
    refine held_pure (v := ?_) rfl rfl (by simp [Region.wanted, yielded]) hS ?_ ?_
    rotate_left
    ·intro w hw; have c0 := HA.out w hw; clear hw; go_simp; try with_reducible rfl
    try simp only [Act.put, zpA, zpB, zpC]
    iterate 3
     refine held_pure (v := ?_) rfl rfl (by simp [Region.wanted, yielded]) hS ?_ ?_
     rotate_left
     ·intro w hw; go_simp; try with_reducible rfl
     try simp only [Act.put, zpA, zpB, zpC]
    refine held_pure (v := ?_) rfl rfl (by simp [Region.wanted, yielded]) hS ?_ ?_
    rotate_left
    ·intro w hw; have c0 := HX.out w hw; clear hw; go_simp; try with_reducible rfl
    try simp only [Act.put, zpA, zpB, zpC]
    iterate 7
     refine held_pure (v := ?_) rfl rfl (by simp [Region.wanted, yielded]) hS ?_ ?_
     rotate_left
     ·intro w hw; go_simp; try with_reducible rfl
     try simp only [Act.put, zpA, zpB, zpC]
    refine held_pure (v := ?_) rfl rfl (by simp [Region.wanted, yielded]) hS ?_ ?_
    rotate_left
    ·intro w hw; have c0 := HX.out w hw; clear hw; go_simp; try with_reducible rfl
    try simp only [Act.put, zpA, zpB, zpC]
    iterate 3
     refine held_pure (v := ?_) rfl rfl (by simp [Region.wanted, yielded]) hS ?_ ?_
     rotate_left
     ·intro w hw; go_simp; try with_reducible rfl
     try simp only [Act.put, zpA, zpB, zpC]
    refine held_pure (v := ?_) rfl rfl (by simp [Region.wanted, yielded]) hS ?_ ?_
    rotate_left
    ·intro w hw; have c0 := HA.out w hw; clear hw; go_simp; try with_reducible rfl
    try simp only [Act.put, zpA, zpB, zpC]
    refine held_pure (v := ?_) rfl rfl (by simp [Region.wanted, yielded]) hS ?_ ?_
    rotate_left
    ·intro w hw; go_simp; try with_reducible rfl
    try simp only [Act.put, zpA, zpB, zpC]
    refine held_pure (v := ?_) rfl rfl (by simp [Region.wanted, yielded]) hS ?_ ?_
    rotate_left
    ·intro w hw; have c0 := HE.out w hw; clear hw; go_simp; try with_reducible rfl
    try simp only [Act.put, zpA, zpB, zpC]
    iterate 3
     refine held_pure (v := ?_) rfl rfl (by simp [Region.wanted, yielded]) hS ?_ ?_
     rotate_left
     ·intro w hw; go_simp; try with_reducible rfl
     try simp only [Act.put, zpA, zpB, zpC]
    refine held_end ?_
    go_wp2
    go_end0
    exact ⟨rfl, HF.out, Hg4.out⟩
   ·have d2 : ((x.toNat : Int) != (c.toNat : Int)) = true := by
     have : x.toNat ≠ c.toNat := fun e => hc (UInt8.toNat_inj.1 e.symm)
     simp; omega
    obtain ⟨q1, q2⟩ := lcp_miss (bs := pre) (xs := xs) (c := c) hlk (by rw [Hk.out, ← hak, hx]; intro e; injection e with e; exact hc e.symm)
    have HF := Lib.hid (show Wk (W2.drew.setCell ⟨g, 3, none⟩ (.bool true)) g (some ad) xn xc xs (pre ++ [c]) from wk_mk (k := k + 1) HB3.out HR3.out hxm (by rw [q1, Ha.out]) (by rw [List.length_append, Hk.out]; rfl) q2 Hs'.out)
    clear q1 q2 hlk hak hu hx c1 hc
    refine wp_region_keep (fun w' => w' = W2.drew) [(0, false), (1, false), (2, false), (3, false), (4, false), (5, false), (6, false), (7, false), (8, false), (9, false), (10, false), (11, false), (12, false), (13, false), (14, false), (15, false), (16, false), (17, false), (18, false), (19, false), (20, false), (21, false), (22, false), (23, false), (24, false), (25, false), (26, false), (27, false), (28, false), (29, false)] (by kernel_rfl) (by kernel_rfl) (by kernel_rfl) (fun d _ _ _ _ h => by cases d <;> exact h) ?_
    iterate 3
     refine held_pure (v := ?_) rfl rfl (by simp [Region.wanted, yielded]) hS ?_ ?_
     rotate_left
     ·intro w hw; go_simp; try with_reducible rfl
     try simp only [Act.put, zpA, zpB, zpC]
    refine held_pure (v := ?_) rfl rfl (by simp [Region.wanted, yielded]) hS ?_ ?_
    rotate_left
    ·intro w hw; have c0 := HO.out w hw; clear hw; go_simp; try with_reducible rfl
    try simp only [Act.put, zpA, zpB, zpC]
    iterate 4
     refine held_pure (v := ?_) rfl rfl (by simp [Region.wanted, yielded]) hS ?_ ?_
     rotate_left
     ·intro w hw; go_simp; try with_reducible rfl
     try simp only [Act.put, zpA, zpB, zpC]
    refine held_pure (v := ?_) rfl rfl (by simp [Region.wanted, yielded]) hS ?_ ?_
    rotate_left
    ·intro w hw; have c0 := HA.out w hw; clear hw; go_simp; try with_reducible rfl
    try simp only [Act.put, zpA, zpB, zpC]
    iterate 3
     refine held_pure (v := ?_) rfl rfl (by simp [Region.wanted, yielded]) hS ?_ ?_
     rotate_left
     ·intro w hw; go_simp; try with_reducible rfl
     try simp only [Act.put, zpA, zpB, zpC]
    refine held_pure (v := ?_) rfl rfl (by simp [Region.wanted, yielded]) hS ?_ ?_
    rotate_left
    ·intro w hw; have c0 := HX.out w hw; clear hw; go_simp; try with_reducible rfl
    try simp only [Act.put, zpA, zpB, zpC]
    iterate 7
     refine held_pure (v := ?_) rfl rfl (by simp [Region.wanted, yielded]) hS ?_ ?_
     rotate_left
     ·intro w hw; go_simp; try with_reducible rfl
     try simp only [Act.put, zpA, zpB, zpC]
    refine held_pure (v := ?_) rfl rfl (by simp [Region.wanted, yielded]) hS ?_ ?_
    rotate_left
    ·intro w hw; have c0 := HX.out w hw; clear hw; go_simp; try with_reducible rfl
    try simp only [Act.put, zpA, zpB, zpC]
    iterate 3
     refine held_pure (v := ?_) rfl rfl (by simp [Region.wanted, yielded]) hS ?_ ?_
     rotate_left
     ·intro w hw; go_simp; try with_reducible rfl
     try simp only [Act.put, zpA, zpB, zpC]
    refine held_pure (v := ?_) rfl rfl (by simp [Region.wanted, yielded]) hS ?_ ?_
    rotate_left
    ·intro w hw; have c0 := HA.out w hw; clear hw; go_simp; try with_reducible rfl
    try simp only [Act.put, zpA, zpB, zpC]
    refine held_pure (v := ?_) rfl rfl (by simp [Region.wanted, yielded]) hS ?_ ?_
    rotate_left
    ·intro w hw; go_simp; try with_reducible rfl
    try simp only [Act.put, zpA, zpB, zpC]
    refine held_pure (v := ?_) rfl rfl (by simp [Region.wanted, yielded]) hS ?_ ?_
    rotate_left
    ·intro w hw; have c0 := HE.out w hw; clear hw; go_simp; try with_reducible rfl
    try simp only [Act.put, zpA, zpB, zpC]
    iterate 3
     refine held_pure (v := ?_) rfl rfl (by simp [Region.wanted, yielded]) hS ?_ ?_
     rotate_left
     ·intro w hw; go_simp; try with_reducible rfl
     try simp only [Act.put, zpA, zpB, zpC]
    refine held_end ?_
    go_wp2
    ((try simp only [Exit.inBlock, Exit.then]); refine bodyPost_ret (results_none rfl _ _ _) rfl ?_)
    exact ⟨rfl, HF.out, Hg3.out⟩
end Go.Proofs.YtnkgchmkmhdcaaaGreatDoor
namespace Go.Proofs.YtnkgchmkmhdcaaaGreatDoor
open Go.RowKit
set_option maxRecDepth 100000 in
set_option maxHeartbeats 1000000 in
theorem rnumber_any (g : Nat) (X : Option Addr) (xn xc : Nat) (xs pre : List UInt8) (n : Nat) (z : Int) (hz : z = (n : Int)) (hn : n < 18446744073709551616) (w : World) (h : Wk w g X xn xc xs pre) (hl : pre.length + 10 ≤ 4611686018427387904) :
  Calls Tryz.prog 193 #[.pointer (some ⟨g, 0, none⟩), .int .u64 z] w (WalkP g X xn xc xs pre (leb n) w) := by
 subst hz
 have Hn := Lib.hid hn
 have H := Lib.hid h
 have hlb := leb_le n
 clear hn h
 go_enter Tryz.func193, Tryz.ntmps193
 go_wp2
 go_loopw [1] (fun u wr => ∃ (m f : Nat) (cur : List UInt8), u = .int .u64 (m : Int) ∧ Hid (cur.length + f = 9) ∧ Hid (m < 128 ^ (f + 1)) ∧ Hid (m < 18446744073709551616) ∧ Hid (cur ++ lebF f m = leb n) ∧ Hid (Wk wr g X xn xc xs (pre ++ cur)) ∧ Hid (w.grownBy wr (some g))) (fun u _ => (intOf u).toNat)
 case atStart => exact ⟨n, 9, [], rfl, rfl, by have := Hn.out; show n < 128 ^ (9 + 1); omega, Hn, rfl, Lib.hid (by rw [List.append_nil]; exact H.out), Lib.hid (grown_refl _ _)⟩
 case round =>
  clear H
  obtain ⟨m, f, cur, rfl, Hk, Hm, Hm64, Hcur, H, HG⟩ := hrel
  have hcl : (pre ++ cur).length < 4611686018427387904 := by have := Hk.out; rw [List.length_append]; omega
  by_cases hlt : 128 ≤ m
  ·go_wp2_with fail
   refine (ris_any g X xn xc xs (pre ++ cur) (UInt8.ofNat (m % 128 + 128)) _ (by rw [ofNat_toNat _ (by omega)]; omega) _ H.out hcl).mono ?_
   rintro e w1 ⟨rfl, hW, hg⟩
   have H1 := Lib.hid hW
   have HG1 := Lib.hid (grown_trans HG.out hg)
   have hcur' : (cur ++ [UInt8.ofNat (m % 128 + 128)]) ++ lebF (f - 1) (m / 128) = leb n ∧ 1 ≤ f := by
    have h1 := Hcur.out
    have h2 := Hm.out
    cases f with
    | zero => simp at h2; omega
    | succ f => rw [← h1]; simp [lebF, Nat.not_lt.2 hlt]
   have Hcur' := Lib.hid hcur'
   have hdiv : IntKind.u64.wrap ((m : Int) / 128) = ((m / 128 : Nat) : Int) := by
    have := Hm64.out
    rw [IntKind.wrap_u64]; omega
   have Hdiv := Lib.hid hdiv
   clear hW hg hcur' hdiv hcl H HG
   go_wp2
   go_roundw
   case rel =>
    refine ⟨m / 128, f - 1, cur ++ [UInt8.ofNat (m % 128 + 128)], by first | rw [Hdiv.out] | go_num, Lib.hid ?_, Lib.hid ?_, Lib.hid ?_, Lib.hid Hcur'.out.1, Lib.hid (by rw [← List.append_assoc]; exact H1.out), HG1⟩
    ·have := Hk.out
     have := Hcur'.out.2
     rw [List.length_append, List.length_singleton]
     omega
    ·have h2 := Hm.out
     have := Hcur'.out.2
     obtain ⟨f, rfl⟩ : ∃ g, f = g + 1 := ⟨f - 1, by omega⟩
     rw [Nat.pow_succ] at h2
     exact Nat.div_lt_of_lt_mul (by rw [Nat.mul_comm]; exact h2)
    ·have := Hm64.out
     omega
   case measure => first | (simp [intOf, Hdiv.out]; omega) | (simp [intOf]; omega)
  ·have hcf : pre ++ leb n = (pre ++ cur) ++ [UInt8.ofNat m] := by rw [← Hcur.out, lebF_small f m (by omega), List.append_assoc]
   have Hcf := Lib.hid hcf
   clear hcf
   go_wp2_with fail
   refine (ris_any g X xn xc xs (pre ++ cur) (UInt8.ofNat m) _ (by rw [ofNat_toNat _ (by omega)]) _ H.out hcl).mono ?_
   rintro e w1 ⟨rfl, hW, hg⟩
   have H1 := Lib.hid hW
   have HG1 := Lib.hid (grown_trans HG.out hg)
   clear hW hg H HG
   go_wp2
   go_end0
   exact ⟨rfl, by rw [Hcf.out]; exact H1.out, HG1.out⟩
set_option maxRecDepth 100000 in
set_option maxHeartbeats 1000000 in
theorem rzigzag_any (g : Nat) (X : Option Addr) (xn xc : Nat) (xs pre : List UInt8) (n : Int) (h1 : -9223372036854775808 ≤ n) (h2 : n ≤ 9223372036854775807) (w : World) (h : Wk w g X xn xc xs pre) (hl : pre.length + 10 ≤ 4611686018427387904) :
  Calls Tryz.prog 195 #[.pointer (some ⟨g, 0, none⟩), .int .i64 n] w (WalkP g X xn xc xs pre (leb (zig n)) w) := by
 have hzl : zig n < 18446744073709551616 := by unfold zig; split <;> omega
 have Hzl := Lib.hid hzl
 have H := Lib.hid h
 clear hzl h
 by_cases hn : n < 0
 ·go_enter Tryz.func195, Tryz.ntmps195
  go_wp2_with fail
  refine (rnumber_any g X xn xc xs pre (zig n) _ (by first | (unfold zig; rw [if_pos hn]; omega) | (simp only [IntKind.wrap_u64, wrap64]; unfold zig; rw [if_pos hn]; omega)) Hzl.out _ H.out hl).mono ?_
  rintro e w1 ⟨rfl, hW, hg⟩
  have H1 := Lib.hid hW
  have HG := Lib.hid hg
  clear hW hg
  go_wp2
  go_end0
  exact ⟨rfl, H1.out, HG.out⟩
 ·go_enter Tryz.func195, Tryz.ntmps195
  go_wp2_with fail
  refine (rnumber_any g X xn xc xs pre (zig n) _ (by unfold zig; rw [if_neg (by omega)]; omega) Hzl.out _ H.out hl).mono ?_
  rintro e w1 ⟨rfl, hW, hg⟩
  have H1 := Lib.hid hW
  have HG := Lib.hid hg
  clear hW hg
  go_wp2
  go_end0
  exact ⟨rfl, H1.out, HG.out⟩
theorem text_at (s : ByteArray) (i : Nat) (hi : i < s.size) : ∃ b, s.data.toList[i]? = some b := ⟨_, List.getElem?_eq_getElem (by rw [Array.length_toList]; exact hi)⟩
set_option maxRecDepth 100000 in
set_option maxHeartbeats 1000000 in
theorem rtext_any (g : Nat) (X : Option Addr) (xn xc : Nat) (xs pre : List UInt8) (s : ByteArray) (hs : s.size ≤ maxLen) (w : World) (h : Wk w g X xn xc xs pre) (hl : pre.length + 10 + s.size ≤ 4611686018427387904) :
  Calls Tryz.prog 256 #[.pointer (some ⟨g, 0, none⟩), .string s] w (WalkP g X xn xc xs pre (leb s.size ++ s.data.toList) w) := by
 have H := Lib.hid h
 have hs63 : s.size ≤ 9223372036854775807 := by simp only [maxLen] at hs; omega
 have hlb := leb_le s.size
 have hlen : s.data.toList.length = s.size := by rw [Array.length_toList]; rfl
 have Hlen := Lib.hid hlen
 clear h hs hlen
 go_enter Tryz.func256, Tryz.ntmps256
 go_wp2_with fail
 refine (rnumber_any g X xn xc xs pre s.size _ (by first | rfl | (simp only [IntKind.wrap_u64]; omega)) (by omega) _ H.out (by omega)).mono ?_
 rintro e w1 ⟨rfl, hW, hg⟩
 replace H := Lib.hid hW
 have HG := Lib.hid hg
 clear hW hg
 go_wp2
 go_loopw [4] (fun v wr => ∃ i : Nat, i ≤ s.size ∧ v = .int .i64 (i : Int) ∧ Hid (Wk wr g X xn xc xs (pre ++ (leb s.size ++ s.data.toList.take i))) ∧ Hid (w.grownBy wr (some g))) (fun v _ => s.size - (intOf v).toNat)
 case atStart => exact ⟨0, Nat.zero_le _, rfl, Lib.hid (by rw [List.take_zero, List.append_nil]; exact H.out), HG⟩
 case round =>
  clear H HG
  obtain ⟨i, hi, rfl, H, HG⟩ := hrel
  by_cases hlt : i < s.size
  ·have d1 : decide ((i : Int) < (s.size : Int)) = true := by simp; omega
   have e1 : (i : Int) < (s.size : Int) := by omega
   obtain ⟨b, hb⟩ := text_at s i hlt
   have Hst := Lib.hid (show s.data.toList.take (i + 1) = s.data.toList.take i ++ [b] by rw [List.take_add_one, hb]; rfl)
   have Hb := Lib.hid hb
   have hbi : s[i] = b := by
    have := List.getElem?_eq_some_iff.1 hb
    obtain ⟨h1, h2⟩ := this
    rw [← h2]
    rfl
   clear hb
   go_wp2_with fail
   refine (ris_any g X xn xc xs _ b _ rfl _ H.out (by simp only [List.length_append, List.length_take]; omega)).mono ?_
   rintro e w2 ⟨rfl, hW, hg⟩
   replace H := Lib.hid (show Wk w2 g X xn xc xs (pre ++ (leb s.size ++ s.data.toList.take (i + 1))) by rw [Hst.out]; simpa only [List.append_assoc] using hW)
   replace HG := Lib.hid (grown_trans HG.out hg)
   clear hW hg hbi
   go_wp2
   go_roundw
   case rel => exact ⟨i + 1, hlt, by go_num, H, HG⟩
   case measure => simp [intOf]; omega
  ·obtain rfl : i = s.size := by omega
   have d1 : decide ((s.size : Int) < (s.size : Int)) = false := by simp
   rw [List.take_of_length_le (by rw [Hlen.out]; exact Nat.le_refl _)] at H
   go_wp2
   go_end0
   exact ⟨rfl, H.out, HG.out⟩
end Go.Proofs.YtnkgchmkmhdcaaaGreatDoor
