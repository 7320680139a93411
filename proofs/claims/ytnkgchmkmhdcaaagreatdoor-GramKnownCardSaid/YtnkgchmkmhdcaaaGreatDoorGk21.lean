/- Part 21 of the walks, merged: each text under its own heading. Conditions: none of its own; each lemma states what it asks. -/
import Derived.Test.YtnkgchmkmhdcaaaGreatDoorGk11
import Derived.Test.YtnkgchmkmhdcaaaGreatDoorGk14
import Derived.Test.YtnkgchmkmhdcaaaGreatDoorGk15
import Derived.Test.YtnkgchmkmhdcaaaGreatDoorGk16
import Derived.Test.YtnkgchmkmhdcaaaGreatDoorGk17
import Derived.Test.YtnkgchmkmhdcaaaGreatDoorGk18
import Derived.Test.YtnkgchmkmhdcaaaGreatDoorGk19
import Derived.Test.YtnkgchmkmhdcaaaGreatDoorGk20
import Derived.RangeFuncNested
import Derived.RangeFuncBound
import Derived.RangeFuncCalls
import Derived.RangeFuncLeaves
import Derived.RangeFuncFrom
import Derived.Lib.ConvBytes
import Derived.WalkMore
set_option linter.unusedVariables false
set_option linter.unusedSimpArgs false
namespace Go.Proofs.YtnkgchmkmhdcaaaGreatDoor
open Go.RowKit
def DecP (r : Got Ba) (w : World) (e : Ending) (w' : World) : Prop :=
 Below w.heap.size w w' ∧ match r with
  | .ok b => ∃ I m d, e = .returned (.tuple #[.agg #[.int .i64 b.1, .int .i64 b.2.1, .slice I m d], .int .i64 0]) ∧ ItemsOwn w' w.heap.size I m d b.2.2
  | .error er => e = .returned (.tuple #[.agg #[.int .i64 0, .int .i64 0, .slice none 0 0], .int .i64 (er : Int)]) ∧ er ≠ 0
theorem ItemsOwn.mono {w : World} {b b2 n c : Nat} {A : Option Addr} {l : List It} (h : ItemsOwn w b A n c l) (hb : b2 ≤ b) : ItemsOwn w b2 A n c l := by
 obtain ⟨hs, h1, h2⟩ := h
 exact ⟨hs, own_mono h1 hb, h2.1, fun j g it h3 h4 => own_mono (h2.2 j g it h3 h4) hb⟩
theorem same_set3b {w : World} {g : Nat} {t : TypeId} {a b c : Value} (h : Blk w g t #[a, b, c]) : Blk (((w.setCell ⟨g, 0, none⟩ a).setCell ⟨g, 1, none⟩ b).setCell ⟨g, 2, none⟩ c) g t #[a, b, c] := by
 have := ((h.set_ 0 a).set_ 1 b).set_ 2 c
 simpa using this
def decV (r : Got Ba) : Int × Int × Int := match r with
 | .ok b => (0, b.1, b.2.1)
 | .error er => ((er : Int), 0, 0)
set_option maxRecDepth 100000 in
set_option maxHeartbeats 1000000 in
theorem bdec_any (A : Option Addr) (n c : Nat) (cs : List Co) (B : Option Addr) (m cb : Nat) (xs : List UInt8) (w : World) (hr : Reads w w.heap.size 7 A n (cos cs)) (hn : n ≤ maxLen) (hx : Reads w w.heap.size 1 B m (u8s xs)) (hm : m ≤ cb) (hc : cb ≤ maxLen) (hT : Tab2 w.heap.size w) :
  Calls Tryz.prog 42 #[.slice A n c, .slice B m cb] w (DecP (decB cs xs) w) := by
 have hin := callFunc_in Tryz.func109 (by kernel_rfl) (by kernel_rfl)
 obtain ⟨b, hb⟩ : ∃ b, b = w.heap.size := ⟨_, rfl⟩
 obtain ⟨W2, hW2⟩ : ∃ W2, W2 = ((w.alloc (.cells #[.slice A n c] 32)).alloc (.cells #[.slice B m cb] 35)).alloc (.cells #[.int .i64 0, .int .i64 0, .slice none 0 0] 30) := ⟨_, rfl⟩
 obtain ⟨W3, hW3⟩ : ∃ W3, W3 = W2.alloc (.cells #[.int .i64 0] 36) := ⟨_, rfl⟩
 have hs2 : W2.heap.size = b + 3 := by rw [hW2, hb]; simp
 have hs3 : W3.heap.size = b + 4 := by rw [hW3]; simp [hs2]
 have hw3 : Below b w W3 := by rw [hW3, hW2, hb]; exact bal (bal (bal (bal (Below.refl _ _) _) _) _) _
 have B0 : Blk W3 b 32 #[.slice A n c] := by
  have := (((Blk.new w 32 #[.slice A n c]).alloc (.cells #[.slice B m cb] 35)).alloc (.cells #[.int .i64 0, .int .i64 0, .slice none 0 0] 30)).alloc (.cells #[.int .i64 0] 36)
  rw [hW3, hW2, hb]
  exact this
 have B1 : Blk W3 (b + 1) 35 #[.slice B m cb] := by
  have := ((Blk.new (w.alloc (.cells #[.slice A n c] 32)) 35 #[.slice B m cb]).alloc (.cells #[.int .i64 0, .int .i64 0, .slice none 0 0] 30)).alloc (.cells #[.int .i64 0] 36)
  rw [hW3, hW2, hb]
  simpa using this
 have B2 : Blk W3 (b + 2) 30 #[.int .i64 0, .int .i64 0, .slice none 0 0] := by
  have := (Blk.new ((w.alloc (.cells #[.slice A n c] 32)).alloc (.cells #[.slice B m cb] 35)) 30 #[.int .i64 0, .int .i64 0, .slice none 0 0]).alloc (.cells #[.int .i64 0] 36)
  rw [hW3, hW2, hb]
  simpa using this
 have B3 : Blk W3 (b + 3) 36 #[.int .i64 0] := by
  have := Blk.new W2 36 #[.int .i64 0]
  rw [hs2] at this
  rw [hW3]
  exact this
 have HK := Lib.hid (caught_any 109 #[.pointer (some ⟨b, 0, none⟩), .pointer (some ⟨b + 1, 0, none⟩), .pointer (some ⟨b + 2, 0, none⟩)] W2 (fun E w' => E = (decV (decB cs xs)).1 ∧ (∃ I k d, Blk w' (b + 2) 30 #[.int .i64 (decV (decB cs xs)).2.1, .int .i64 (decV (decB cs xs)).2.2, .slice I k d] ∧ (∀ q, decB cs xs = .ok q → ItemsOwn w' b I k d q.2.2) ∧ (∀ er, decB cs xs = .error er → (I = none ∧ k = 0 ∧ d = 0) ∧ er ≠ 0)) ∧ Below b w w') hin (by
  rw [← hW3]
  refine (dec1_any b A n c cs B m cb xs W3 hs3 B0 B1 B2 B3 (by rw [← hb] at hr; exact hr.below hw3) hn (by rw [← hb] at hx; exact hx.below hw3) hm hc (by rw [← hb] at hT; exact hT.keep hw3)).mono ?_
  rintro e w' ⟨hm, h3, h4⟩
  refine ⟨(decV (decB cs xs)).1, ?_, ⟨rfl, ?_, hw3.trans h4⟩, by rw [hs2]; exact h3⟩
  ·rcases hd : decB cs xs with er | q
   ·rw [hd] at hm
    obtain ⟨rfl, he, -⟩ := hm
    exact (endN_not (by show (er : Int) ≠ 0; omega)).symm
   ·rw [hd] at hm
    exact hm.1
  ·rcases hd : decB cs xs with er | q
   ·rw [hd] at hm
    exact ⟨none, 0, 0, hm.2.2, (fun q h => by cases h), (fun e h => by cases h; exact ⟨⟨rfl, rfl, rfl⟩, hm.2.1⟩)⟩
   ·rw [hd] at hm
    obtain ⟨-, I, k, d, g1, g2⟩ := hm
    exact ⟨I, k, d, g1, (fun q h => by cases h; exact g2.mono (by omega)), (fun e h => by cases h)⟩))
 have Hs2 := Lib.hid hs2
 have Hb := Lib.hid hb
 clear hr hT hw3 B0 B1 B2 B3 hs3 hs2 hW3 hx
 go_enter Tryz.func42, Tryz.ntmps42
 obtain ⟨R, hR⟩ : ∃ R, R = decB cs xs := ⟨_, rfl⟩
 rw [← hR] at HK ⊢
 obtain ⟨q, hq⟩ : ∃ q, q = decV R := ⟨_, rfl⟩
 rw [← hq] at HK
 have Hq := Lib.hid hq
 clear hR hq
 obtain ⟨E, V, S⟩ := q
 simp only at HK
 go_wp2_with fail
 rw [← hW2, ← hb]
 have Hw := Lib.hid hW2
 clear hW2 hb
 with_reducible refine HK.out.mono ?_
 rintro e w1 ⟨E2, w2, rfl, ⟨rfl, ⟨I, k, d, g1, g2, g3⟩, g5⟩, hE, rfl⟩
 have H1 := Lib.hid (g1.far (p := ⟨W2.heap.size, 0, none⟩) (by have := Hs2.out; show b + 2 ≠ W2.heap.size; omega) (.int .i64 E2))
 have HI := Lib.hid (show ∀ q, R = .ok q → ItemsOwn (w2.setCell ⟨W2.heap.size, 0, none⟩ (.int .i64 E2)) b I k d q.2.2 from fun q h => (g2 q h).far hE (by decide) (by decide) 0 _)
 have HE := Lib.hid g3
 have HB := Lib.hid (g5.setCell (p := ⟨W2.heap.size, 0, none⟩) (by have := Hs2.out; show b ≤ W2.heap.size; omega) (.int .i64 E2))
 clear g1 g2 g3 g5 hE HK
 generalize w2.setCell ⟨W2.heap.size, 0, none⟩ (.int .i64 E2) = w5 at *
 have k0 := H1.out.cell 0
 have k1 := H1.out.cell 1
 have k2 := H1.out.cell 2
 have f0 := H1.out.frozen 0
 have f1 := H1.out.frozen 1
 have f2 := H1.out.frozen 2
 rw [show b + 1 + 1 = b + 2 from rfl]
 go_wp2
 have H2 := same_set3b H1.out
 have c0 := H2.cell 0
 have c1 := H2.cell 1
 have c2 := H2.cell 2
 have HI2 := Lib.hid (show ∀ q, R = .ok q → ItemsOwn (((w5.setCell ⟨b + 2, 0, none⟩ (.int .i64 V)).setCell ⟨b + 2, 1, none⟩ (.int .i64 S)).setCell ⟨b + 2, 2, none⟩ (.slice I k d)) b I k d q.2.2 from fun q h => (((HI.out q h).far H1.out (by decide) (by decide) 0 _).far (H1.out.set_ 0 _) (by decide) (by decide) 1 _).far ((H1.out.set_ 0 _).set_ 1 _) (by decide) (by decide) 2 _)
 have HB2 := Lib.hid (((HB.out.setCell (p := ⟨b + 2, 0, none⟩) (by show b ≤ b + 2; omega) (.int .i64 V)).setCell (p := ⟨b + 2, 1, none⟩) (by show b ≤ b + 2; omega) (.int .i64 S)).setCell (p := ⟨b + 2, 2, none⟩) (by show b ≤ b + 2; omega) (.slice I k d))
 refine bodyPost_ret (v := .tuple #[.agg #[.int .i64 V, .int .i64 S, .slice I k d], .int .i64 E2]) (by rw [results_cell_tmp rfl]; simp [go_sem, c0, c1, c2]) rfl ?_
 refine ⟨by rw [← Hb.out]; exact HB2.out, ?_⟩
 rw [← Hb.out]
 rcases R with er | q
 ·obtain ⟨⟨rfl, rfl, rfl⟩, he⟩ := HE.out er rfl
  have := Hq.out
  cases this
  exact ⟨rfl, he⟩
 ·have := Hq.out
  cases this
  exact ⟨I, k, d, rfl, HI2.out q rfl⟩
end Go.Proofs.YtnkgchmkmhdcaaaGreatDoor
namespace Go.Proofs.YtnkgchmkmhdcaaaGreatDoor
open Go.RowKit
theorem cos_take (l : List Co) (k : Nat) : (cos l).take (k * 7) = cos (l.take k) := by
 induction l generalizing k with
 | nil => simp [cos]
 | cons c l ih =>
  cases k with
  | zero => simp [cos]
  | succ k =>
   have := ih k
   simp only [cos, List.flatMap_cons, List.take_succ_cons] at this ⊢
   rw [← this, show (k + 1) * 7 = 7 + k * 7 by omega]
   have h7 : (coV c).length = 7 := rfl
   rw [List.take_append, h7, List.take_of_length_le (by omega)]
   simp
theorem reads_litc (w : World) (cs : Array Value) (l : List Co) (b n : Nat) (hb : b = w.heap.size) (h : cs.toList = cos l) (hn : l.length = n) :
  Reads (w.alloc (.cells cs 45)) (w.alloc (.cells cs 45)).heap.size 7 (some ⟨b, 0, none⟩) n (cos l) := by
 subst hb hn
 refine ⟨by rw [cos_length]; omega, fun _ => ⟨_, rfl, by simp, fun j u hu => ?_⟩⟩
 have hadd : (⟨w.heap.size, 0, none⟩ : Addr).add j = ⟨w.heap.size, j, none⟩ := by unfold Addr.add; split <;> simp_all
 rw [hadd, cell_of_row _ w.heap.size j cs 45 (0, 0) (heap_alloc_new w _)]
 simpa [← h] using hu
end Go.Proofs.YtnkgchmkmhdcaaaGreatDoor
namespace Go.Proofs.YtnkgchmkmhdcaaaGreatDoor
open Go.RowKit
theorem columns18_any (A : Option Addr) (n c : Nat) (l : List Co) (w : World) (hr : Reads w w.heap.size 7 A n (cos l)) (hn : n ≤ c) (hc : c ≤ maxLen) :
  Calls Tryz.prog 58 #[.slice A n c] w fun e w' => ∃ A' k c', e = .returned (.slice A' k c') ∧ k ≤ 40 ∧ w'.ownsRow w.heap.size 45 7 (.slice A' k c') k (cos (l.take 40)) ∧ Below w.heap.size w w' := by
 obtain ⟨mn, hmn⟩ : ∃ mn : Nat, mn = min n 40 := ⟨_, rfl⟩
 have hmi : min (n : Int) 40 = (mn : Int) := by omega
 have h1 : mn ≤ n := by omega
 have h2 : mn ≤ 40 := by omega
 have h3 : mn ≤ c := by omega
 have h4 : (mn : Int) ≤ (c : Int) := by omega
 have hc63 : c ≤ 9223372036854775807 := by simp only [maxLen] at hc; omega
 have ht := hr.head h1
 rw [cos_take] at ht
 have hE : l.take mn = l.take 40 := by
  have := cos_len hr
  rcases Nat.lt_or_ge n 40 with h | h
  ·rw [List.take_of_length_le (by omega), List.take_of_length_le (by omega)]
  ·rw [show mn = 40 by omega]
 rw [hE] at ht
 have HK := Lib.hid (copyCols_any A mn c (l.take 40) w ht (by omega))
 clear hmn hr ht hE
 go_enter Tryz.func58, Tryz.ntmps58
 go_wp2_with fail
 with_reducible refine HK.out.mono ?_
 rintro e w1 ⟨A', c', rfl, -, -, q3, q4⟩
 have HO := Lib.hid q3
 have HB := Lib.hid q4
 clear q3 q4
 go_wp2
 go_ret
 exact ⟨A', mn, c', rfl, h2, HO.out, HB.out⟩
theorem bytes18_any (A : Option Addr) (n c : Nat) (l : List UInt8) (w : World) (hr : Reads w w.heap.size 1 A n (u8s l)) (hn : n ≤ c) (hc : c ≤ maxLen) :
  Calls Tryz.prog 60 #[.slice A n c] w fun e w' => ∃ A' k c', e = .returned (.slice A' k c') ∧ k ≤ c' ∧ c' ≤ maxLen ∧ w'.ownsRow w.heap.size 5 1 (.slice A' k c') k (u8s (l.take 2000)) ∧ Below w.heap.size w w' := by
 obtain ⟨mn, hmn⟩ : ∃ mn : Nat, mn = min n 2000 := ⟨_, rfl⟩
 have hmi : min (n : Int) 2000 = (mn : Int) := by omega
 have h1 : mn ≤ n := by omega
 have h3 : mn ≤ c := by omega
 have h4 : (mn : Int) ≤ (c : Int) := by omega
 have hc63 : c ≤ 9223372036854775807 := by simp only [maxLen] at hc; omega
 have ht := hr.head h1
 rw [Nat.mul_one, u8s_take] at ht
 have hE : l.take mn = l.take 2000 := by
  have := reads_len hr
  rcases Nat.lt_or_ge n 2000 with h | h
  ·rw [List.take_of_length_le (by omega), List.take_of_length_le (by omega)]
  ·rw [show mn = 2000 by omega]
 rw [hE] at ht
 have HK := Lib.hid (copyBytes_any A mn c (l.take 2000) w ht (by omega))
 clear hmn hr ht hE
 go_enter Tryz.func60, Tryz.ntmps60
 go_wp2_with fail
 with_reducible refine HK.out.mono ?_
 rintro e w1 ⟨A', c', rfl, q1, q2, q3, q4⟩
 have HO := Lib.hid q3
 have HB := Lib.hid q4
 have HC := Lib.hid (And.intro q1 q2)
 clear q3 q4 q1 q2
 go_wp2
 go_ret
 exact ⟨A', mn, c', rfl, HC.out.1, HC.out.2, HO.out, HB.out⟩
def twoG : List Co := [(0, ⟨#[]⟩, 1, true, false, 0, ⟨#[]⟩), (0, ⟨#[]⟩, 4, false, false, 0, ⟨#[]⟩)]
set_option maxRecDepth 100000 in
theorem twoG_any (w : World) :
  Calls Tryz.prog 22 #[] w fun e w' => e = .returned (.slice (some ⟨w.heap.size, 0, none⟩) 2 2) ∧ Reads w' w'.heap.size 7 (some ⟨w.heap.size, 0, none⟩) 2 (cos twoG) ∧ Below w.heap.size w w' := by
 go_enter Tryz.func22, Tryz.ntmps22
 go_wp2
 go_ret
 exact ⟨rfl, reads_litc _ _ _ _ _ rfl rfl rfl, (Below.refl _ _).alloc (Nat.le_refl _) _⟩
end Go.Proofs.YtnkgchmkmhdcaaaGreatDoor
namespace Go.Proofs.YtnkgchmkmhdcaaaGreatDoor
open Go.RowKit
structure Mid (base B : Nat) (w w' : World) : Prop where
 os : w'.os = w.os
 tape : w'.tape = w.tape
 output : w'.output = w.output
 size : w.heap.size ≤ w'.heap.size
 block : ∀ k, k < w.heap.size → (k < base ∨ B ≤ k) → w'.heap[k]? = w.heap[k]?
section
variable {base B : Nat} {w w' w'' : World}
theorem Mid.refl (base B : Nat) (w : World) : Mid base B w w := ⟨rfl, rfl, rfl, Nat.le_refl _, fun _ _ _ => rfl⟩
theorem Mid.trans (h : Mid base B w w') (k : Mid base B w' w'') : Mid base B w w'' :=
 ⟨k.os.trans h.os, k.tape.trans h.tape, k.output.trans h.output, Nat.le_trans h.size k.size, fun i hi hj => (k.block i (Nat.lt_of_lt_of_le hi h.size) hj).trans (h.block i hi hj)⟩
theorem Mid.of_below (h : Below w.heap.size w w') : Mid base B w w' := ⟨h.os, h.tape, h.output, h.size, fun k hk _ => h.block k hk⟩
theorem Mid.below (h : Mid base B w w') (hb : base ≤ w.heap.size) : Below base w w' := ⟨h.os, h.tape, h.output, h.size, fun k hk => h.block k (Nat.lt_of_lt_of_le hk hb) (.inl hk)⟩
theorem Mid.mono {base2 B2 : Nat} (h : Mid base B w w') (h1 : base2 ≤ base) (h2 : B ≤ B2) : Mid base2 B2 w w' :=
 ⟨h.os, h.tape, h.output, h.size, fun k hk hj => h.block k hk (hj.imp (fun x => Nat.lt_of_lt_of_le x h1) (fun x => Nat.le_trans h2 x))⟩
theorem Mid.drew (h : Mid base B w w') : Mid base B w w'.drew := ⟨h.os, h.tape, h.output, h.size, h.block⟩
theorem Mid.alloc (h : Mid base B w w') (o : Obj) : Mid base B w (w'.alloc o) := h.trans (Mid.of_below ((Below.refl _ _).alloc (Nat.le_refl _) o))
theorem Mid.setCell (h : Mid base B w w') {p : Addr} (h1 : base ≤ p.block) (h2 : p.block < B ∨ w.heap.size ≤ p.block) (u : Value) : Mid base B w (w'.setCell p u) :=
 ⟨h.os, h.tape, h.output, by simpa [World.setCell] using h.size, fun k hk hj => (Below.heap_setCell _ _ _ _ (by omega)).trans (h.block k hk hj)⟩
theorem Mid.put (base B : Nat) (w : World) (l : Nat) (o : Obj) (h1 : base ≤ l) (h2 : l < B) : Mid base B w (w.putObj l o) :=
 have g := grownBy_putObj' w l o
 ⟨g.os, g.tape, g.output, g.size, fun k hk hj => g.block k hk (fun e => by cases e; omega)⟩
theorem Mid.cell (h : Mid base B w w') {p : Addr} (hp : p.block < w.heap.size) (hj : p.block < base ∨ B ≤ p.block) : w'.cell? p = w.cell? p := World.cell?_of_block (w := w) (h.block p.block hp hj)
end
variable {n : Nat} {P : Program}
def SeqB {α : Type} (n : Nat) (P : Program) (g : Nat) (lb : Array Value) (encs : α → Array Value) (base : Nat) (S Sp : List α → Prop) (w : World) : Prop :=
 ∀ (l : Nat) (J Jx : List α → World → Prop) (W : World), Below w.heap.size w W → (∀ s A A', J s A → Below W.heap.size A A' → J s A') → (∀ s A A', Jx s A → Below W.heap.size A A' → Jx s A') →
  (∀ pre x W1, J pre W1 → YieldAt Fence.wide (n - 1) P l (encs x) W1 fun e W' =>
   (e = .returned (.bool true) ∧ J (pre ++ [x]) W' ∧ Mid base W.heap.size W1 W') ∨ (e = .returned (.bool false) ∧ Jx (pre ++ [x]) W' ∧ Mid base W.heap.size W1 W')) →
  J [] W →
  CallsIn Fence.wide n P g (#[.func (.yield l) #[] #[]] ++ lb) W fun e W' => (∃ v, e = .returned v) ∧ ((∃ xs, S xs ∧ J xs W') ∨ (∃ pre, Sp pre ∧ Jx pre W'))
def postB {α : Type} (base B : Nat) (I : List α → World → Prop) (Ix : Code → List α → World → Prop) (xs : List α) (W : World) : Exit → Act → World → Prop
 | .normal, _, W' => Mid base B W W' ∧ I xs W'
 | .ret, _, W' => Mid base B W W' ∧ Ix .ret xs W'
 | .exit id, _, W' => Mid base B W W' ∧ Ix (.exit id) xs W'
 | .goto t, _, W' => Mid base B W W' ∧ Ix (.goto t) xs W'
 | .panic _, _, _ => False
 | .outgrown, _, _ => False
theorem put_below (w : World) (l : Nat) (o : Obj) (B : Nat) (hB : B ≤ w.heap.size) (hl : B ≤ l) : Below B w (w.putObj l o) :=
 (Below.refl B w).grown (grownBy_putObj' w l o) hB (fun k e => by cases e; exact hl)
theorem wpIn_rangeFunc_B {α : Type} {g : Operand} {ps : Array Tmp} {assign body : Code} {Q : Exit → Act → World → Prop} {a : Act} {w : World}
  (h1 : 1 ≤ n) {gf : Nat} {lb : Array Value} (hg : a.eval g = .func (.func gf) #[] lb) (eg : ∀ args w, (callFunc gf args).run P w = .ok (.enter gf args) w)
  {encs : α → Array Value} {S Sp : List α → Prop} {base : Nat} {w0 : World} (hseq : SeqB (n - 1) P gf lb encs base S Sp w0) (hb0 : Below w0.heap.size w0 w) (hps : ∀ x, (encs x).size = ps.size) (hbase : base ≤ w.heap.size)
  (I : List α → World → Prop) (Ix : Code → List α → World → Prop) (hI : ∀ s A A', I s A → Below w.heap.size A A' → I s A') (hIx : ∀ c s A A', Ix c s A → Below w.heap.size A A' → Ix c s A') (h0 : I [] w) (a₁ : α → Act)
  (hassign : ∀ (l : Nat) (x : α) (W : World) (K : Act → World → Prop), K (a₁ x) W →
   assign.wpIn (Fence.wide.inRound l) (n - 1 - 1) P (Exit.then K (fun _ _ _ => False)) { tmps := (ps.zip (encs x)).foldl (fun t (p, v) => t.setIfInBounds p v) a.tmps, defers := [] } W)
  (hbody : ∀ (l : Nat) (pre : List α) (x : α) (W : World), I pre W → w.heap.size ≤ W.heap.size → body.wpIn (Fence.wide.inRound l) (n - 1 - 1) P (postB base w.heap.size I Ix (pre ++ [x]) W) (a₁ x) W)
  (hdone : ∀ (D : Nat) (xs : List α) (W : World), w.heap.size ≤ D → S xs → I xs W → W.heap[D]? = some (.deferred (some [])) → Q .normal { a with defers := { target := .collected D, args := #[] } :: a.defers } W)
  (hstop : ∀ (D : Nat) (c : Code) (pre : List α) (W : World), w.heap.size ≤ D → Sp pre → Ix c pre W → W.heap[D]? = some (.deferred (some [])) → c.wpIn Fence.wide n P Q { a with defers := { target := .collected D, args := #[] } :: a.defers } W) :
  (Code.rangeFunc g ps assign body).wpIn Fence.wide n P Q a w := by
 refine wpIn_rangeFunc ?_
 intro fn hfn
 rw [show Fence.wide.round = none from rfl]
 obtain ⟨rec, hrec⟩ : ∃ rec : LoopState → Option Code → Loop, rec = fun st pe => { state := st, pending := pe, fn, tmps := a.tmps, params := ps, assign, body, defers := w.heap.size } := ⟨_, rfl⟩
 obtain ⟨W1, hW1⟩ : ∃ W1, (w.alloc (.deferred (some []))).alloc (.loop (rec .ready none)) = W1 := ⟨_, rfl⟩
 have hL1 : W1.heap[w.heap.size + 1]? = some (.loop (rec .ready none)) := by
  rw [← hW1]; have := World.alloc_heap_new (w.alloc (.deferred (some []))) (.loop (rec .ready none)); rwa [World.size_alloc] at this
 have hK1 : W1.heap[w.heap.size]? = some (.deferred (some [])) := by
  rw [← hW1]; exact (Below.heap_alloc _ _ _ (by simp)).trans (World.alloc_heap_new w _)
 have hwW : Below w.heap.size w W1 := by rw [← hW1]; exact ((Below.refl _ w).alloc (Nat.le_refl _) _).alloc (by simp) _
 have hI1 : I [] W1 := hI _ _ _ h0 hwW
 have hb1 : Below w0.heap.size w0 W1 := hb0.trans (hwW.mono hb0.size)
 have hs1 : W1.heap.size = w.heap.size + 2 := by rw [← hW1]; simp
 refine ⟨w.heap.size + 1, [{ target := .collected w.heap.size, args := #[] }], W1, { target := .fn (.func gf) lb, args := #[.func (.yield (w.heap.size + 1)) #[] #[]] }, W1, gf,
  #[.func (.yield (w.heap.size + 1)) #[] #[]] ++ lb, W1, ?_, ?_, ?_, ?_, fun _ => h1, ?_⟩
 ·rw [← hW1, hrec]; exact run_enterLoop_outer _ _ _ _ _
 ·simp only [resolve, hg]
  simp [go_sem]
 ·intro f' hf'; exact trivial
 ·simp [invoke, go_sem, eg]
 ·refine (hseq (w.heap.size + 1)
   (fun pre W => I pre W ∧ W.heap[w.heap.size + 1]? = some (.loop (rec .ready none)) ∧ W.heap[w.heap.size]? = some (.deferred (some [])))
   (fun pre W => ∃ c, Ix c pre W ∧ W.heap[w.heap.size + 1]? = some (.loop (rec .done (some c))) ∧ W.heap[w.heap.size]? = some (.deferred (some [])))
   W1 hb1
   (fun s A A' hs hb => ⟨hI s A A' hs.1 (hb.mono (by omega)), (hb.block _ (by omega)).trans hs.2.1, (hb.block _ (by omega)).trans hs.2.2⟩)
   (fun s A A' hs hb => by
    obtain ⟨c, hc, hl, hk⟩ := hs
    exact ⟨c, hIx c s A A' hc (hb.mono (by omega)), (hb.block _ (by omega)).trans hl, (hb.block _ (by omega)).trans hk⟩)
   ?_ ⟨hI1, hL1, hK1⟩).mono ?_
  ·rintro pre x W ⟨hi, hl, hk⟩
   have hlt : w.heap.size + 1 < W.heap.size := (Array.getElem?_eq_some_iff.1 hl).1
   have hy := run_yield (P := P) (args := encs x) hl (by rw [hrec]; exact hps x)
   rw [hrec] at hy
   refine ⟨fn, _, assign, body, hy, roundIn_of_wpIn hfn (hassign _ x W _ ⟨_, run_beginRound hl (by rw [hrec]), ?_⟩)⟩
   have hl2 : (W.putObj (w.heap.size + 1) (.loop { rec .ready none with state := .busy })).heap[w.heap.size + 1]? = some (.loop { rec .ready none with state := .busy }) := World.putObj_heap_same hlt
   have hk2 : (W.putObj (w.heap.size + 1) (.loop { rec .ready none with state := .busy })).heap[w.heap.size]? = some (.deferred (some [])) := (World.putObj_heap_other (by omega)).trans hk
   have hw2 : Mid base W1.heap.size W (W.putObj (w.heap.size + 1) (.loop { rec .ready none with state := .busy })) := Mid.put _ _ _ _ _ (by omega) (by omega)
   have hz2 := hw2.size
   refine wpIn_mono (hbody _ pre x _ (hI _ _ _ hi (put_below _ _ _ _ (by omega) (by omega))) (Nat.le_trans (show w.heap.size ≤ W.heap.size by omega) hw2.size)) ?_
   have fin : ∀ (jump : Option Code) (W3 : World), Mid base w.heap.size (W.putObj (w.heap.size + 1) (.loop { rec .ready none with state := .busy })) W3 →
     (Instr.endRound (w.heap.size + 1) jump).run P W3 = .ok (.bool jump.isNone) (W3.putObj (w.heap.size + 1) (.loop (rec (if jump.isNone then .ready else .done) jump))) ∧
     (W3.putObj (w.heap.size + 1) (.loop (rec (if jump.isNone then .ready else .done) jump))).heap[w.heap.size + 1]? = some (.loop (rec (if jump.isNone then .ready else .done) jump)) ∧
     (W3.putObj (w.heap.size + 1) (.loop (rec (if jump.isNone then .ready else .done) jump))).heap[w.heap.size]? = some (.deferred (some [])) ∧
     Mid base W1.heap.size W (W3.putObj (w.heap.size + 1) (.loop (rec (if jump.isNone then .ready else .done) jump))) ∧
     Below w.heap.size W3 (W3.putObj (w.heap.size + 1) (.loop (rec (if jump.isNone then .ready else .done) jump))) := fun jump W3 hk3 => by
    have hl3 := (hk3.block (w.heap.size + 1) (by omega) (.inr (by omega))).trans hl2
    have hd3 := (hk3.block w.heap.size (by omega) (.inr (Nat.le_refl _))).trans hk2
    have hz3 := hk3.size
    have := run_endRound (P := P) jump hl3
    rw [hrec] at this ⊢
    exact ⟨this, World.putObj_heap_same (Array.getElem?_eq_some_iff.1 hl3).1, (World.putObj_heap_other (by omega)).trans hd3, (hw2.trans (hk3.mono (Nat.le_refl _) (by omega))).trans (Mid.put _ _ _ _ _ (by omega) (by omega)), put_below _ _ _ _ (by omega) (by omega)⟩
   rintro e a3 W3 hp
   cases e with
   | normal =>
    obtain ⟨hk3, hi3⟩ := hp
    obtain ⟨hr, hl4, hk4, hm4, hb4⟩ := fin none W3 hk3
    exact ⟨_, _, hr, .inl ⟨rfl, ⟨hI _ _ _ hi3 hb4, hl4, hk4⟩, hm4⟩⟩
   | ret =>
    obtain ⟨hk3, hi3⟩ := hp
    obtain ⟨hr, hl4, hk4, hm4, hb4⟩ := fin (some .ret) W3 hk3
    exact ⟨_, _, hr, .inr ⟨rfl, ⟨.ret, hIx _ _ _ _ hi3 hb4, hl4, hk4⟩, hm4⟩⟩
   | exit id =>
    obtain ⟨hk3, hi3⟩ := hp
    obtain ⟨hr, hl4, hk4, hm4, hb4⟩ := fin (some (.exit id)) W3 hk3
    exact ⟨_, _, hr, .inr ⟨rfl, ⟨.exit id, hIx _ _ _ _ hi3 hb4, hl4, hk4⟩, hm4⟩⟩
   | goto t =>
    obtain ⟨hk3, hi3⟩ := hp
    obtain ⟨hr, hl4, hk4, hm4, hb4⟩ := fin (some (.goto t)) W3 hk3
    exact ⟨_, _, hr, .inr ⟨rfl, ⟨.goto t, hIx _ _ _ _ hi3 hb4, hl4, hk4⟩, hm4⟩⟩
   | panic ch => exact hp.elim
   | outgrown => exact hp.elim
  ·rintro e W2 ⟨⟨v, rfl⟩, (⟨xs, hS, hi, hl, hk⟩ | ⟨pre, hSp, c, hi, hl, hk⟩)⟩
   ·have hlt := (Array.getElem?_eq_some_iff.1 hl).1
    exact ⟨none, _, by have := run_endLoop (P := P) hl (by rw [hrec]; simp); rw [hrec] at this; exact this, hdone _ xs _ (Nat.le_refl _) hS (hI _ _ _ hi (put_below _ _ _ _ (by omega) (by omega))) ((World.putObj_heap_other (by omega)).trans hk)⟩
   ·have hlt := (Array.getElem?_eq_some_iff.1 hl).1
    exact ⟨some c, _, by have := run_endLoop (P := P) hl (by rw [hrec]; simp); rw [hrec] at this; exact this, hstop _ c pre _ (Nat.le_refl _) hSp (hIx c _ _ _ hi (put_below _ _ _ _ (by omega) (by omega))) ((World.putObj_heap_other (by omega)).trans hk)⟩
end Go.Proofs.YtnkgchmkmhdcaaaGreatDoor
namespace Go.Proofs.YtnkgchmkmhdcaaaGreatDoor
open Go.RowKit
def Emit (J Jx : List UInt8 → World → Prop) (base B : Nat) (pre bs : List UInt8) (w : World) (e : Ending) (w' : World) : Prop :=
 ((e = .returned (.bool true) ∧ J (pre ++ bs) w') ∨ (e = .returned (.bool false) ∧ ∃ q, q <+: bs ∧ Jx (pre ++ q) w')) ∧ Mid base B w w'
structure YOk (f : FuncId) (caps : Array Value) (J Jx : List UInt8 → World → Prop) (base B : Nat) : Prop where
 le : base ≤ B
 stJ : ∀ s A A', J s A → Below B A A' → J s A'
 stX : ∀ s A A', Jx s A → Below B A A' → Jx s A'
 big : ∀ s A, J s A → B ≤ A.heap.size
 call : ∀ pre (c : UInt8) W, J pre W → Calls Tryz.prog f (#[.int .u8 (c.toNat : Int)] ++ caps) W (Emit J Jx base B pre [c] W)
 ent : ∀ args w, (callFunc f args).run Tryz.prog w = .ok (.enter f args) w
section
variable {J Jx : List UInt8 → World → Prop} {base B : Nat} {pre bs bs2 : List UInt8} {w w1 w2 : World} {e : Ending} {f : FuncId} {caps : Array Value}
theorem Emit.yes (h : J (pre ++ bs) w1) (hm : Mid base B w w1) : Emit J Jx base B pre bs w (.returned (.bool true)) w1 := ⟨.inl ⟨rfl, h⟩, hm⟩
theorem Emit.no {q : List UInt8} (hq : q <+: bs) (h : Jx (pre ++ q) w1) (hm : Mid base B w w1) : Emit J Jx base B pre bs w (.returned (.bool false)) w1 := ⟨.inr ⟨rfl, q, hq, h⟩, hm⟩
theorem Emit.none_ (h : J pre w1) (hm : Mid base B w w1) : Emit J Jx base B pre [] w (.returned (.bool true)) w1 := .yes (by rw [List.append_nil]; exact h) hm
theorem Emit.after (hm : Mid base B w w1) (h : Emit J Jx base B (pre ++ bs) bs2 w1 e w2) : Emit J Jx base B pre (bs ++ bs2) w e w2 := by
 obtain ⟨h1 | ⟨h1, q, hq, hx⟩, h2⟩ := h
 ·exact ⟨.inl ⟨h1.1, by rw [← List.append_assoc]; exact h1.2⟩, hm.trans h2⟩
 ·exact ⟨.inr ⟨h1, bs ++ q, (List.prefix_append_right_inj bs).2 hq, by rw [← List.append_assoc]; exact hx⟩, hm.trans h2⟩
theorem Emit.stop (hm0 : Mid base B w w1) {q : List UInt8} (hq : q <+: bs) (hx : Jx (pre ++ q) w2) (hm : Mid base B w1 w2) : Emit J Jx base B pre (bs ++ bs2) w (.returned (.bool false)) w2 :=
 .no (hq.trans (List.prefix_append _ _)) hx (hm0.trans hm)
theorem Emit.ahead (hm : Mid base B w w1) (h : Emit J Jx base B pre bs w1 e w2) : Emit J Jx base B pre bs w e w2 := ⟨h.1, hm.trans h.2⟩
theorem Emit.on (hy : YOk f caps J Jx base B) (h : Emit J Jx base B pre bs w e w1) (hb : Below w1.heap.size w1 w2) (hB : B ≤ w1.heap.size) : Emit J Jx base B pre bs w e w2 := by
 obtain ⟨h1 | ⟨h1, q, hq, hx⟩, h2⟩ := h
 ·exact ⟨.inl ⟨h1.1, hy.stJ _ _ _ h1.2 (hb.mono hB)⟩, h2.trans (Mid.of_below hb)⟩
 ·exact ⟨.inr ⟨h1, q, hq, hy.stX _ _ _ hx (hb.mono hB)⟩, h2.trans (Mid.of_below hb)⟩
theorem YOk.onJ (hy : YOk f caps J Jx base B) (h : J pre w) (hb : Below w.heap.size w w1) : J pre w1 := hy.stJ _ _ _ h (hb.mono (hy.big _ _ h))
theorem YOk.alJ (hy : YOk f caps J Jx base B) (h : J pre w) (o : Obj) : J pre (w.alloc o) := hy.onJ h ((Below.refl _ _).alloc (Nat.le_refl _) o)
theorem Reads.mid0 {size n : Nat} {A : Option Addr} {xs : List Value} (h : Reads w base size A n xs) (hb : Mid base B w w1) (hB : base ≤ w.heap.size) : Reads w1 base size A n xs := h.below (hb.below hB)
theorem Blk.mid {g : Nat} {t : TypeId} {cs : Array Value} (h : Blk w g t cs) (hb : Mid base B w w1) (hg : B ≤ g) : Blk w1 g t cs := (hb.block g h.lt (.inr hg)).trans h
theorem Blk.mid0 {g : Nat} {t : TypeId} {cs : Array Value} (h : Blk w g t cs) (hb : Mid base B w w1) (hg : g < base) : Blk w1 g t cs := (hb.block g h.lt (.inl hg)).trans h
theorem own_mid {b2 : Nat} {t : TypeId} {size n : Nat} {v : Value} {xs : List Value} (h : w.ownsRow b2 t size v n xs) (hb : Mid base B w w1) (hB : B ≤ b2) : w1.ownsRow b2 t size v n xs := by
 obtain ⟨hl, ⟨rfl, rfl⟩ | ⟨g, cap, cur, rfl, h1, h2, h3⟩⟩ := h
 ·exact ⟨hl, .inl ⟨rfl, rfl⟩⟩
 ·refine ⟨hl, .inr ⟨g, cap, cur, rfl, h1, ?_, h3⟩⟩
  have hg : g < w.heap.size := (Array.getElem?_eq_some_iff.1 h2).1
  exact (hb.block g hg (.inr (Nat.le_trans hB h1))).trans h2
end
end Go.Proofs.YtnkgchmkmhdcaaaGreatDoor
namespace Go.Proofs.YtnkgchmkmhdcaaaGreatDoor
def lcp : List UInt8 → List UInt8 → Nat
 | a :: us, b :: bs => if a = b then lcp us bs + 1 else 0
 | _, _ => 0
theorem lcp_le : ∀ a b : List UInt8, lcp a b ≤ a.length ∧ lcp a b ≤ b.length
 | [], b => by simp [lcp]
 | a :: us, [] => by simp [lcp]
 | a :: us, b :: bs => by
  have := lcp_le us bs
  unfold lcp
  split
  ·simp only [List.length_cons]; omega
  ·simp
theorem lcp_self : ∀ a : List UInt8, lcp a a = a.length
 | [] => rfl
 | a :: us => by simp [lcp, lcp_self us]
theorem lcp_take : ∀ (a b : List UInt8), a.take (lcp a b) = b.take (lcp a b)
 | [], b => by simp [lcp]
 | a :: us, [] => by simp [lcp]
 | a :: us, b :: bs => by
  unfold lcp
  split
  ·rename_i h
   subst h
   simp [lcp_take us bs]
  ·simp
theorem lcp_next : ∀ (a b : List UInt8) (x y : UInt8), a[lcp a b]? = some x → b[lcp a b]? = some y → x ≠ y
 | [], b, x, y => by simp
 | a :: us, [], x, y => by simp
 | a :: us, b :: bs, x, y => by
  unfold lcp
  split
  ·simpa using lcp_next us bs x y
  ·rename_i h
   intro h1 h2
   simp at h1 h2
   subst h1 h2
   exact h
theorem lcp_full {a b : List UInt8} (h : lcp a b = b.length) (hl : a.length = b.length) : a = b := by
 have := lcp_take a b
 rwa [h, List.take_of_length_le (by omega), List.take_of_length_le (by omega)] at this
end Go.Proofs.YtnkgchmkmhdcaaaGreatDoor
namespace Go.Proofs.YtnkgchmkmhdcaaaGreatDoor
theorem lcp_stuck : ∀ (bs xs cs : List UInt8), lcp bs xs < bs.length → lcp (bs ++ cs) xs = lcp bs xs
 | [], xs, cs, h => by simp at h
 | b :: bs, [], cs, _ => rfl
 | b :: bs, x :: xs, cs, h => by
  rw [List.cons_append]
  unfold lcp at h ⊢
  split
  ·rename_i e
   rw [if_pos e, List.length_cons] at h
   rw [lcp_stuck bs xs cs (by omega)]
  ·rfl
theorem lcp_whole : ∀ (bs xs : List UInt8) (c : UInt8), lcp bs xs = bs.length → lcp (bs ++ [c]) xs = if xs[bs.length]? = some c then bs.length + 1 else bs.length
 | [], [], c, _ => rfl
 | [], x :: xs, c, _ => by
  simp only [List.nil_append, List.length_nil, List.getElem?_cons_zero, Option.some.injEq]
  unfold lcp
  by_cases e : c = x
  ·rw [if_pos e, if_pos e.symm]; rfl
  ·rw [if_neg e, if_neg (fun h => e h.symm)]
 | b :: bs, [], c, h => by simp [lcp] at h
 | b :: bs, x :: xs, c, h => by
  rw [List.cons_append]
  unfold lcp at h ⊢
  split at h
  ·rename_i e
   rw [List.length_cons] at h
   rw [if_pos e, lcp_whole bs xs c (by omega), List.length_cons, List.getElem?_cons_succ]
   split <;> rfl
  ·simp at h
theorem lcp_le1 (bs xs : List UInt8) : lcp bs xs ≤ bs.length := (lcp_le bs xs).1
theorem lcp_le2 (bs xs : List UInt8) : lcp bs xs ≤ xs.length := (lcp_le bs xs).2
theorem packL_nil : packL [] = [] := rfl
theorem packL_chunk (l : List Bool) (h : l ≠ []) : packL l = UInt8.ofNat (byteOf (l.take 8)) :: packL (l.drop 8) := by
 have hl : 0 < l.length := List.length_pos_iff.2 h
 have hn : Go.Proofs.YtnkgchmkmhdcaaaGreatDoor.need l.length = Go.Proofs.YtnkgchmkmhdcaaaGreatDoor.need (l.drop 8).length + 1 := by
  rw [List.length_drop]
  unfold Go.Proofs.YtnkgchmkmhdcaaaGreatDoor.need
  omega
 unfold packL
 rw [hn, packF]
theorem byteOf_step (l : List Bool) (i : Nat) (b : Bool) (h : l[i]? = some b) : byteOf (l.take (i + 1)) = byteOf (l.take i) + if b then 2 ^ i else 0 := by
 have hi := (List.getElem?_eq_some_iff.1 h).1
 rw [take_next l i b h, byteOf_append, List.length_take, Nat.min_eq_left (by omega)]
 cases b <;> simp [byteOf]
theorem byteOf_lt_take (l : List Bool) (i : Nat) : byteOf (l.take i) < 2 ^ i := by
 have h1 := byteOf_lt (l.take i)
 have h2 : 2 ^ (l.take i).length ≤ 2 ^ i := Nat.pow_le_pow_right (by omega) (List.length_take_le _ _)
 omega
def dct (l : List ByteArray) : List ByteArray := (splitL l).1
theorem dct_nil : dct [] = [] := rfl
theorem dct_nodup (l : List ByteArray) : (dct l).Nodup := (splitL_used l).1
theorem placeL_mem {d : List ByteArray} {s : ByteArray} : (∃ k, placeL d s = some k) ↔ s ∈ d := by
 constructor
 ·rintro ⟨k, h⟩
  exact List.mem_of_getElem? (placeL_some d s k h)
 ·intro h
  rcases hp : placeL d s with _ | k
  ·exact absurd h ((placeL_none d s).1 hp)
  ·exact ⟨k, rfl⟩
theorem step_mem (st : List ByteArray × List Nat) (x s : ByteArray) : s ∈ (splitStep st x).1 ↔ s ∈ st.1 ∨ s = x := by
 unfold splitStep
 split
 ·rename_i k hk
  have := placeL_mem.1 ⟨k, hk⟩
  constructor
  ·exact .inl
  ·rintro (h | rfl)
   ·exact h
   ·exact this
 ·simp
theorem fold_mem (s : ByteArray) : ∀ (l : List ByteArray) (st : List ByteArray × List Nat), s ∈ (l.foldl splitStep st).1 ↔ s ∈ st.1 ∨ s ∈ l
 | [], st => by simp
 | x :: l, st => by
  rw [List.foldl_cons, fold_mem s l, step_mem, List.mem_cons, or_assoc]
theorem dct_mem (l : List ByteArray) (s : ByteArray) : s ∈ dct l ↔ s ∈ l := by
 unfold dct splitL
 rw [fold_mem]
 simp
theorem dct_in {l : List ByteArray} {s : ByteArray} (h : s ∈ l) : dct (l ++ [s]) = dct l := by
 unfold dct
 rw [splitL_snoc]
 unfold splitStep
 split
 ·rfl
 ·rename_i hk
  exact absurd ((dct_mem l s).2 h) ((placeL_none _ s).1 hk)
theorem dct_out {l : List ByteArray} {s : ByteArray} (h : s ∉ l) : dct (l ++ [s]) = dct l ++ [s] := by
 unfold dct
 rw [splitL_snoc]
 unfold splitStep
 split
 ·rename_i k hk
  exact absurd ((dct_mem l s).1 (placeL_mem.1 ⟨k, hk⟩)) h
 ·rfl
theorem dct_take_in {l : List ByteArray} {k : Nat} {s : ByteArray} (h : l[k]? = some s) (hs : s ∈ l.take k) : dct (l.take (k + 1)) = dct (l.take k) := by
 rw [List.take_add_one, h]
 exact dct_in hs
theorem dct_take_out {l : List ByteArray} {k : Nat} {s : ByteArray} (h : l[k]? = some s) (hs : s ∉ l.take k) : dct (l.take (k + 1)) = dct (l.take k) ++ [s] := by
 rw [List.take_add_one, h]
 exact dct_out hs
theorem fold_prefix : ∀ (l : List ByteArray) (st : List ByteArray × List Nat), st.1 <+: (l.foldl splitStep st).1
 | [], st => List.prefix_refl _
 | x :: l, st => by
  rw [List.foldl_cons]
  refine List.IsPrefix.trans ?_ (fold_prefix l _)
  unfold splitStep
  split
  ·exact List.prefix_refl _
  ·exact List.prefix_append _ _
theorem dct_prefix (l : List ByteArray) (k : Nat) : dct (l.take k) <+: dct l := by
 unfold dct splitL
 conv => rhs; rw [← List.take_append_drop k l, List.foldl_append]
 exact fold_prefix _ _
theorem place_first {l : List ByteArray} {k : Nat} {s : ByteArray} (h : l[k]? = some s) (hn : s ∉ l.take k) : placeL (dct l) s = some (dct (l.take k)).length := by
 have h1 := dct_take_out h hn
 obtain ⟨r, hr⟩ := dct_prefix l (k + 1)
 refine placeL_nodup _ _ _ (dct_nodup l) ?_
 rw [← hr, h1, List.append_assoc, List.getElem?_append_right (Nat.le_refl _), Nat.sub_self]
 rfl
def numOf (d : List ByteArray) (s : ByteArray) : Nat := (placeL d s).getD 0
theorem split_nums (l : List ByteArray) : (splitL l).2 = l.map (numOf (dct l)) := by
 obtain ⟨h1, -, h3⟩ := splitL_used l
 refine List.ext_getElem (by simp [(splitL_len l).2]) fun i a b => ?_
 have hl : i < l.length := by simpa using b
 have h4 := congrArg (fun q => q[i]?) h3
 simp only [List.getElem?_map, List.getElem?_eq_getElem a, List.getElem?_eq_getElem hl, Option.map_some, Option.some.injEq] at h4
 rw [List.getElem_map]
 unfold numOf dct
 rw [placeL_nodup _ _ _ h1 h4]
 rfl
theorem putD_eq (l : List ByteArray) : putD l = leb (dct l).length ++ ((dct l).flatMap putText ++ l.flatMap fun s => leb (numOf (dct l) s)) := by
 unfold putD
 rw [split_nums, List.append_assoc, List.flatMap_map]
 rfl
theorem numOf_lt (l : List ByteArray) (s : ByteArray) (hs : s ∈ l) : numOf (dct l) s < (dct l).length := by
 obtain ⟨k, hk⟩ := placeL_mem.2 ((dct_mem l s).2 hs)
 have := (List.getElem?_eq_some_iff.1 (placeL_some _ _ _ hk)).1
 unfold numOf
 rw [hk]
 exact this
theorem dct_len (l : List ByteArray) : (dct l).length ≤ l.length := (splitL_len l).1
end Go.Proofs.YtnkgchmkmhdcaaaGreatDoor
namespace Go.Proofs.YtnkgchmkmhdcaaaGreatDoor
open Go.RowKit
abbrev yv (f : FuncId) (caps : Array Value) : Value := .func (.func f) #[] caps
section
variable {J Jx : List UInt8 → World → Prop} {base B : Nat} {f : FuncId} {caps : Array Value}
theorem prefix_app {a b c : List UInt8} (h : b <+: c) : a ++ b <+: a ++ c := (List.prefix_append_right_inj a).2 h
def Kept (base B : Nat) (w : World) (A : Option Addr) (n : Nat) (bs : List UInt8) : Prop := n ≤ maxLen ∧ ∀ wr, Mid base B w wr → Reads wr wr.heap.size 1 A n (u8s bs)
theorem Kept.own {w : World} {A : Option Addr} {n c : Nat} {bs : List UInt8} (ho : w.ownsRow B 5 1 (.slice A n c) n (u8s bs)) : Kept base B w A n bs :=
 ⟨Nat.le_trans (own_caps ho).1 (own_caps ho).2, fun wr h => own_reads (own_mid ho h (Nat.le_refl _))⟩
theorem str_conv {P : Program} (w : World) (src dst e : TypeId) (s : ByteArray) (hs : P.underlying src = some .string) (hd : P.underlying dst = some (.slice e)) (he : P.underlying e = some (.int .u8)) (hz : s.size ≤ maxLen) (base : Nat) (hB : B ≤ w.heap.size) :
  ∃ (c : Nat) (w1 : World), (convert src dst (.string s)).run P w = .ok (.slice (some ⟨w.heap.size, 0, none⟩) s.size c) w1 ∧ Kept base B w1 (some ⟨w.heap.size, 0, none⟩) s.size s.data.toList ∧ Below w.heap.size w w1 := by
 have hlen : s.data.toList.length = s.size := by rw [Array.length_toList]; rfl
 refine ⟨_, _, Lib.run_convert_string_bytes w src dst e s hs hd he, ⟨hz, fun wr hm => ⟨by simp [hlen], fun _ => ⟨_, rfl, ?_, ?_⟩⟩⟩, ?_⟩
 ·have := hm.size
  rw [Lib.bytesWorld_size] at this
  show w.heap.size < _
  omega
 ·intro j u hu
  simp only [u8s, List.getElem?_map, Option.map_eq_some_iff] at hu
  obtain ⟨b, hb, rfl⟩ := hu
  obtain ⟨hj, rfl⟩ := List.getElem?_eq_some_iff.1 hb
  have := Lib.bytesWorld_cell w e s j (by omega)
  rw [show (⟨w.heap.size, 0, none⟩ : Addr).add j = ⟨w.heap.size, j, none⟩ from by unfold Addr.add; split <;> simp_all]
  rw [hm.cell (p := ⟨w.heap.size, j, none⟩) (by rw [Lib.bytesWorld_size]; show w.heap.size < _; omega) (.inr hB)]
  rw [this, List.getD_eq_getElem?_getD, List.getElem?_eq_getElem hj]
  rfl
 ·exact ⟨rfl, rfl, rfl, by rw [Lib.bytesWorld_size]; omega, fun k hk => Lib.bytesWorld_at_old w e s k hk⟩
set_option maxRecDepth 100000 in
set_option maxHeartbeats 1000000 in
theorem yall_any (hy : YOk f caps J Jx base B) (A : Option Addr) (n c : Nat) (bs pre : List UInt8) (w : World) (hJ : J pre w) (hk : Kept base B w A n bs) :
  Calls Tryz.prog 250 #[yv f caps, .slice A n c] w (Emit J Jx base B pre bs w) := by
 have hent := hy.ent
 have Hy := Lib.hid hy
 have HJ := Lib.hid hJ
 have HO := Lib.hid hk.2
 have hlen : bs.length = n := reads_len (hk.2 w (Mid.refl _ _ _))
 have Hlen := Lib.hid hlen
 have hn63 : n ≤ 9223372036854775807 := by
  have h2 := hk.1
  simp only [maxLen] at h2
  omega
 clear hy hJ hk hlen
 go_enter Tryz.func250, Tryz.ntmps250
 go_wp2
 go_loopw [9] (fun ix wr => ∃ i : Nat, i ≤ n ∧ ix = .int .i64 (i : Int) ∧ Hid (J (pre ++ bs.take i) wr) ∧ Hid (Mid base B w wr)) (fun ix _ => n - (intOf ix).toNat)
 case atStart => exact ⟨0, Nat.zero_le _, rfl, Lib.hid (by simpa using HJ.out), Lib.hid (Mid.refl _ _ _)⟩
 case round =>
  clear HJ
  obtain ⟨i, hi, rfl, HJ, HM⟩ := hrel
  by_cases hlt : i < n
  ·have d1 : decide ((i : Int) < (n : Int)) = true := by simp; omega
   obtain ⟨ad, uu, rfl, hbk, hx, c1⟩ := (HO.out _ HM.out).at_ hlt
   obtain ⟨b, hb, rfl⟩ := u8s_get _ _ _ hx
   have hnx : bs.take (i + 1) = bs.take i ++ [b] := by rw [List.take_add_one, hb]; rfl
   have Hnx := Lib.hid hnx
   have Hb := Lib.hid hb
   have hii : (i : Int) < (n : Int) := by omega
   have hi1 : i + 1 ≤ n := hlt
   clear hbk hx hb hnx
   go_wp2_with fail
   refine (Hy.out.call (pre ++ bs.take i) b _ HJ.out).mono ?_
   rintro e w2 ⟨⟨rfl, hJ2⟩ | ⟨rfl, q, hq, hx⟩, hm2⟩
   ·have HJ2 := Lib.hid (show J (pre ++ bs.take (i + 1)) w2 by rw [Hnx.out, ← List.append_assoc]; exact hJ2)
    have HM2 := Lib.hid (HM.out.trans hm2)
    clear hJ2 hm2 c1
    go_wp2
    go_roundw
    case rel => exact ⟨i + 1, hi1, by go_num, HJ2, HM2⟩
    case measure => simp [intOf]; omega
   ·have HX := Lib.hid (show Emit J Jx base B pre bs w (.returned (.bool false)) w2 by
     refine Emit.no (q := bs.take i ++ q) ?_ (by rw [← List.append_assoc]; exact hx) (HM.out.trans hm2)
     have h1 : bs.take i ++ q <+: bs.take (i + 1) := by rw [Hnx.out]; exact prefix_app hq
     exact h1.trans (List.take_prefix _ _))
    clear hq hx hm2 c1
    go_wp2
    go_ret
    exact HX.out
  ·obtain rfl : i = n := by omega
   have d1 : decide ((i : Int) < (i : Int)) = false := by simp
   have HX := Lib.hid (show Emit J Jx base B pre bs w (.returned (.bool true)) wr by
    refine Emit.yes ?_ HM.out
    have := HJ.out
    rwa [List.take_of_length_le (by rw [Hlen.out]; exact Nat.le_refl _)] at this)
   go_wp2
   go_ret
   exact HX.out
theorem YOk.own (hy : YOk f caps J Jx base B) {pre : List UInt8} {w w1 : World} (hJ : J pre w) {t : TypeId} {size n : Nat} {v : Value} {xs : List Value} (h : w1.ownsRow w.heap.size t size v n xs) : w1.ownsRow B t size v n xs := own_mono h (hy.big _ _ hJ)
set_option maxRecDepth 100000 in
set_option maxHeartbeats 1000000 in
theorem ynumber_any (hy : YOk f caps J Jx base B) (N : Nat) (pre : List UInt8) (w : World) (hJ : J pre w) (hN : N < 18446744073709551616) :
  Calls Tryz.prog 251 #[yv f caps, .int .u64 (N : Int)] w (Emit J Jx base B pre (leb N) w) := by
 have Hy := Lib.hid hy
 have HJ := Lib.hid hJ
 clear hy hJ
 go_enter Tryz.func251, Tryz.ntmps251
 go_wp2_with fail
 with_reducible refine (put_any none 0 0 N [] w Reads.none_ (Nat.le_refl _) (by decide) (by decide) hN).mono ?_
 rintro e w1 ⟨A1, c1, rfl, q1, q2, q3, q4⟩
 rw [Nat.zero_add, List.nil_append] at q3
 rw [Nat.zero_add]
 have HJ1 := Lib.hid (Hy.out.onJ HJ.out q4)
 have HO := Lib.hid (Hy.out.own HJ.out q3)
 have HM := Lib.hid (Mid.of_below (base := base) (B := B) q4)
 clear q1 q2 q3 q4
 generalize leb N = bs at *
 generalize bs.length = bl at HO ⊢
 go_wp2_with fail
 with_reducible refine (yall_any Hy.out A1 bl c1 bs pre _ HJ1.out (Kept.own HO.out)).mono ?_
 intro e w2 hE
 have HE := Lib.hid (Emit.ahead HM.out hE)
 rcases hE.1 with ⟨rfl, -⟩ | ⟨rfl, -⟩
 ·clear hE
  go_wp2
  go_ret
  exact HE.out
 ·clear hE
  go_wp2
  go_ret
  exact HE.out
set_option maxRecDepth 100000 in
set_option maxHeartbeats 1000000 in
theorem yzigzag_any (hy : YOk f caps J Jx base B) (N : Int) (pre : List UInt8) (w : World) (hJ : J pre w) (h1 : -9223372036854775808 ≤ N) (h2 : N ≤ 9223372036854775807) :
  Calls Tryz.prog 253 #[yv f caps, .int .i64 N] w (Emit J Jx base B pre (leb (zig N)) w) := by
 have Hy := Lib.hid hy
 have HJ := Lib.hid hJ
 have H12 := Lib.hid (And.intro h1 h2)
 clear hy hJ h1 h2
 go_enter Tryz.func253, Tryz.ntmps253
 go_wp2_with fail
 with_reducible refine (putInt_any none 0 0 N [] w Reads.none_ (Nat.le_refl _) (by decide) (by decide) H12.out.1 H12.out.2).mono ?_
 rintro e w1 ⟨A1, c1, rfl, q1, q2, q3, q4⟩
 rw [Nat.zero_add, List.nil_append] at q3
 rw [Nat.zero_add]
 have HJ1 := Lib.hid (Hy.out.onJ HJ.out q4)
 have HO := Lib.hid (Hy.out.own HJ.out q3)
 have HM := Lib.hid (Mid.of_below (base := base) (B := B) q4)
 clear q1 q2 q3 q4
 generalize leb (zig N) = bs at *
 generalize bs.length = bl at HO ⊢
 go_wp2_with fail
 with_reducible refine (yall_any Hy.out A1 bl c1 bs pre _ HJ1.out (Kept.own HO.out)).mono ?_
 intro e w2 hE
 have HE := Lib.hid (Emit.ahead HM.out hE)
 rcases hE.1 with ⟨rfl, -⟩ | ⟨rfl, -⟩
 ·clear hE
  go_wp2
  go_ret
  exact HE.out
 ·clear hE
  go_wp2
  go_ret
  exact HE.out
set_option maxRecDepth 100000 in
set_option maxHeartbeats 1000000 in
theorem ytext_any (hy : YOk f caps J Jx base B) (s : ByteArray) (pre : List UInt8) (w : World) (hJ : J pre w) (hs : s.size ≤ maxLen) :
  Calls Tryz.prog 298 #[yv f caps, .string s] w (Emit J Jx base B pre (putText s) w) := by
 have Hy := Lib.hid hy
 have HJ := Lib.hid hJ
 have hs63 : s.size ≤ 9223372036854775807 := by simp only [maxLen] at hs; omega
 have Hs := Lib.hid hs
 clear hy hJ hs
 go_enter Tryz.func298, Tryz.ntmps298
 go_wp2_with fail
 with_reducible refine (ynumber_any Hy.out s.size pre _ HJ.out (by omega)).mono ?_
 intro e w1 hE1
 have hbl : (bts s).length = s.size := by unfold bts; rw [Array.length_toList]; rfl
 have hpt : putText s = leb s.size ++ bts s := by unfold putText; rw [hbl]
 rcases hE1.1 with ⟨rfl, hJ1⟩ | ⟨rfl, q, hq, hx⟩
 ·have HJ1 := Lib.hid hJ1
  have HM1 := Lib.hid hE1.2
  have Hpt := Lib.hid hpt
  obtain ⟨c3, w3, hcv, hk3, hb3⟩ := str_conv (B := B) w1 9 35 5 s Tryz.underlying9 Tryz.underlying35 Tryz.underlying5 Hs.out base (Hy.out.big _ _ hJ1)
  have HK := Lib.hid hk3
  have HB := Lib.hid hb3
  clear hE1 hJ1 hk3 hb3 hbl hpt
  go_wp2_with fail
  clear hcv
  with_reducible refine (yall_any Hy.out (some ⟨w1.heap.size, 0, none⟩) s.size c3 s.data.toList (pre ++ leb s.size) _ (Hy.out.onJ HJ1.out HB.out) HK.out).mono ?_
  intro e w4 hE4
  have HE := Lib.hid (show Emit J Jx base B pre (putText s) w e w4 by
   rw [Hpt.out]
   exact Emit.after (HM1.out.trans (Mid.of_below HB.out)) hE4)
  rcases hE4.1 with ⟨rfl, -⟩ | ⟨rfl, -⟩
  ·clear hE4
   go_wp2
   go_ret
   exact HE.out
  ·clear hE4
   go_wp2
   go_ret
   exact HE.out
 ·have HE := Lib.hid (show Emit J Jx base B pre (putText s) w (.returned (.bool false)) w1 by
   rw [hpt]
   exact Emit.stop (Mid.refl _ _ _) hq hx hE1.2)
  clear hE1 hq hx hbl hpt
  go_wp2
  go_ret
  exact HE.out
structure DoOk (J Jx : List UInt8 → World → Prop) (base B : Nat) (Env : World → Prop) (d : FuncId) (dc : Array Value) (l : List Cl) (fb : Cl → List UInt8) : Prop where
 env : ∀ W W', Env W → Mid base B W W' → Env W'
 call : ∀ pre u x s W, (u, x, s) ∈ l → J pre W → Env W → Calls Tryz.prog d (#[.agg #[.bool u, .int .i64 x, .string s]] ++ dc) W (Emit J Jx base B pre (fb (u, x, s)) W)
 ent : ∀ args w, (callFunc d args).run Tryz.prog w = .ok (.enter d args) w
set_option maxRecDepth 100000 in
set_option maxHeartbeats 1000000 in
theorem each_any (hy : YOk f caps J Jx base B) {Env : World → Prop} {d : FuncId} {dc : Array Value} {fb : Cl → List UInt8} (A : Option Addr) (n c : Nat) (l : List Cl) (pre : List UInt8) (w : World) (hd : DoOk J Jx base B Env d dc l fb) (hE : Env w) (hJ : J pre w) (ho : w.ownsRow B 23 3 (.slice A n c) n (cls l)) :
  Calls Tryz.prog 296 #[.slice A n c, yv d dc] w (Emit J Jx base B pre (l.flatMap fb) w) := by
 have hent := hd.ent
 have Hy := Lib.hid hy
 have Hd := Lib.hid hd
 have HEv := Lib.hid hE
 have HJ := Lib.hid hJ
 have HO := Lib.hid ho
 have hlen : l.length = n := cls_len (own_reads ho)
 have Hlen := Lib.hid hlen
 have hn63 : n ≤ 9223372036854775807 := by
  obtain ⟨h1, h2⟩ := own_caps ho
  simp only [maxLen] at h2
  omega
 clear hy hJ ho hlen hd hE
 go_enter Tryz.func296, Tryz.ntmps296
 go_wp2
 go_loopw [9] (fun ix wr => ∃ i : Nat, i ≤ n ∧ ix = .int .i64 (i : Int) ∧ Hid (J (pre ++ (l.take i).flatMap fb) wr) ∧ Hid (Mid base B w wr)) (fun ix _ => n - (intOf ix).toNat)
 case atStart => exact ⟨0, Nat.zero_le _, rfl, Lib.hid (by simpa using HJ.out), Lib.hid (Mid.refl _ _ _)⟩
 case round =>
  clear HJ
  obtain ⟨i, hi, rfl, HJ, HM⟩ := hrel
  by_cases hlt : i < n
  ·have d1 : decide ((i : Int) < (n : Int)) = true := by simp; omega
   obtain ⟨ad, u, x, s, rfl, hbk, hb, g0, g1, g2⟩ := cls_at (own_reads (own_mid HO.out HM.out (Nat.le_refl _))) hlt
   have hnx : (l.take (i + 1)).flatMap fb = (l.take i).flatMap fb ++ fb (u, x, s) := by rw [List.take_add_one, hb, List.flatMap_append]; simp
   have Hnx := Lib.hid hnx
   have Hb := Lib.hid (List.mem_of_getElem? hb)
   have hii : (i : Int) < (n : Int) := by omega
   have hi1 : i + 1 ≤ n := hlt
   have HMa := Lib.hid (HM.out.alloc (.cells #[.bool u, .int .i64 x, .string s] 23))
   have HJa := Lib.hid (Hy.out.alJ HJ.out (.cells #[.bool u, .int .i64 x, .string s] 23))
   clear hb hnx hbk
   go_wp2_with fail
   with_reducible refine (Hd.out.call _ u x s _ Hb.out HJa.out (Hd.out.env _ _ HEv.out HMa.out)).mono ?_
   rintro e w2 ⟨⟨rfl, hJ2⟩ | ⟨rfl, q, hq, hx⟩, hm2⟩
   ·have HJ2 := Lib.hid (show J (pre ++ (l.take (i + 1)).flatMap fb) w2 by rw [Hnx.out, ← List.append_assoc]; exact hJ2)
    have HM2 := Lib.hid (HMa.out.trans hm2)
    clear hJ2 hm2 g0 g1 g2
    go_wp2
    go_roundw
    case rel => exact ⟨i + 1, hi1, by go_num, HJ2, HM2⟩
    case measure => simp [intOf]; omega
   ·have HX := Lib.hid (show Emit J Jx base B pre (l.flatMap fb) w (.returned (.bool false)) w2 by
     refine Emit.no (q := (l.take i).flatMap fb ++ q) ?_ (by rw [← List.append_assoc]; exact hx) (HMa.out.trans hm2)
     have h1 : (l.take i).flatMap fb ++ q <+: (l.take (i + 1)).flatMap fb := by rw [Hnx.out]; exact prefix_app hq
     refine h1.trans ?_
     conv => rhs; rw [← List.take_append_drop (i + 1) l, List.flatMap_append]
     exact List.prefix_append _ _)
    clear hq hx hm2 g0 g1 g2
    go_wp2
    go_ret
    exact HX.out
  ·obtain rfl : i = n := by omega
   have d1 : decide ((i : Int) < (i : Int)) = false := by simp
   have HX := Lib.hid (show Emit J Jx base B pre (l.flatMap fb) w (.returned (.bool true)) wr by
    refine Emit.yes ?_ HM.out
    have := HJ.out
    rwa [List.take_of_length_le (by rw [Hlen.out]; exact Nat.le_refl _)] at this)
   go_wp2
   go_ret
   exact HX.out
end
end Go.Proofs.YtnkgchmkmhdcaaaGreatDoor
