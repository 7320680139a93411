/- Part 19 of the walks, merged: each text under its own heading. Conditions: none of its own; each lemma states what it asks. -/
import Derived.Test.YtdajddkbkbnoiaaGreatDoorBp18
set_option linter.unusedVariables false
set_option linter.unusedSimpArgs false
namespace Go.Proofs.YtdajddkbkbnoiaaGreatDoor
open Go.RowKit
def DecP (r : Got Ba) (w : World) (e : Ending) (w' : World) : Prop :=
  Below w.heap.size w w' ∧ match r with
    | .ok b => ∃ I m d, e = .returned (.tuple #[.agg #[.int .i64 b.1, .int .i64 b.2.1, .slice I m d], .int .i64 0]) ∧ ItemsOwn w' w.heap.size I m d b.2.2
    | .error er => e = .returned (.tuple #[.agg #[.int .i64 0, .int .i64 0, .slice none 0 0], .int .i64 (er : Int)]) ∧ er ≠ 0
theorem ItemsOwn.mono {w : World} {b b2 n c : Nat} {A : Option Addr} {l : List It} (h : ItemsOwn w b A n c l) (hb : b2 ≤ b) : ItemsOwn w b2 A n c l := by
  obtain ⟨hs, h1, h2⟩ := h
  exact ⟨hs, own_mono h1 hb, h2.1, fun j g it h3 h4 => own_mono (h2.2 j g it h3 h4) hb⟩
theorem same_set3b {w : World} {g : Nat} {t : TypeId} {a b c : Value} (h : Blk w g t #[a, b, c]) : Blk (((w.setCell ⟨g, 0, none⟩ a).setCell ⟨g, 1, none⟩ b).setCell ⟨g, 2, none⟩ c) g t #[a, b, c] := by
  have := ((h.set_ 0 a).set_ 1 b).set_ 2 c
  simpa using this
def decV (r : Got Ba) : Int × Int × Int := match r with
  | .ok b => (0, b.1, b.2.1)
  | .error er => ((er : Int), 0, 0)
set_option maxRecDepth 100000 in
set_option maxHeartbeats 1000000 in
theorem bdec_any (A : Option Addr) (n c : Nat) (cs : List Co) (B : Option Addr) (m cb : Nat) (xs : List UInt8) (w : World) (hr : Reads w w.heap.size 7 A n (cos cs)) (hn : n ≤ maxLen) (hx : Reads w w.heap.size 1 B m (u8s xs)) (hm : m ≤ cb) (hc : cb ≤ maxLen) (hT : Tab2 w.heap.size w) :
    Calls Tryz.prog 22 #[.slice A n c, .slice B m cb] w (DecP (decB cs xs) w) := by
  have hin := callFunc_in Tryz.func59 (by kernel_rfl) (by kernel_rfl)
  obtain ⟨b, hb⟩ : ∃ b, b = w.heap.size := ⟨_, rfl⟩
  obtain ⟨W2, hW2⟩ : ∃ W2, W2 = ((w.alloc (.cells #[.slice A n c] 22)).alloc (.cells #[.slice B m cb] 26)).alloc (.cells #[.int .i64 0, .int .i64 0, .slice none 0 0] 25) := ⟨_, rfl⟩
  obtain ⟨W3, hW3⟩ : ∃ W3, W3 = W2.alloc (.cells #[.int .i64 0] 30) := ⟨_, rfl⟩
  have hs2 : W2.heap.size = b + 3 := by rw [hW2, hb]; simp
  have hs3 : W3.heap.size = b + 4 := by rw [hW3]; simp [hs2]
  have hw3 : Below b w W3 := by rw [hW3, hW2, hb]; exact bal (bal (bal (bal (Below.refl _ _) _) _) _) _
  have B0 : Blk W3 b 22 #[.slice A n c] := by
    have := (((Blk.new w 22 #[.slice A n c]).alloc (.cells #[.slice B m cb] 26)).alloc (.cells #[.int .i64 0, .int .i64 0, .slice none 0 0] 25)).alloc (.cells #[.int .i64 0] 30)
    rw [hW3, hW2, hb]
    exact this
  have B1 : Blk W3 (b + 1) 26 #[.slice B m cb] := by
    have := ((Blk.new (w.alloc (.cells #[.slice A n c] 22)) 26 #[.slice B m cb]).alloc (.cells #[.int .i64 0, .int .i64 0, .slice none 0 0] 25)).alloc (.cells #[.int .i64 0] 30)
    rw [hW3, hW2, hb]
    simpa using this
  have B2 : Blk W3 (b + 2) 25 #[.int .i64 0, .int .i64 0, .slice none 0 0] := by
    have := (Blk.new ((w.alloc (.cells #[.slice A n c] 22)).alloc (.cells #[.slice B m cb] 26)) 25 #[.int .i64 0, .int .i64 0, .slice none 0 0]).alloc (.cells #[.int .i64 0] 30)
    rw [hW3, hW2, hb]
    simpa using this
  have B3 : Blk W3 (b + 3) 30 #[.int .i64 0] := by
    have := Blk.new W2 30 #[.int .i64 0]
    rw [hs2] at this
    rw [hW3]
    exact this
  have HK := Lib.hid (caught_any 59 #[.pointer (some ⟨b, 0, none⟩), .pointer (some ⟨b + 1, 0, none⟩), .pointer (some ⟨b + 2, 0, none⟩)] W2 (fun E w' => E = (decV (decB cs xs)).1 ∧ (∃ I k d, Blk w' (b + 2) 25 #[.int .i64 (decV (decB cs xs)).2.1, .int .i64 (decV (decB cs xs)).2.2, .slice I k d] ∧ (∀ q, decB cs xs = .ok q → ItemsOwn w' b I k d q.2.2) ∧ (∀ er, decB cs xs = .error er → (I = none ∧ k = 0 ∧ d = 0) ∧ er ≠ 0)) ∧ Below b w w') hin (by
    rw [← hW3]
    refine (dec1_any b A n c cs B m cb xs W3 hs3 B0 B1 B2 B3 (by rw [← hb] at hr; exact hr.below hw3) hn (by rw [← hb] at hx; exact hx.below hw3) hm hc (by rw [← hb] at hT; exact hT.keep hw3)).mono ?_
    rintro e w' ⟨hm, h3, h4⟩
    refine ⟨(decV (decB cs xs)).1, ?_, ⟨rfl, ?_, hw3.trans h4⟩, by rw [hs2]; exact h3⟩
    · rcases hd : decB cs xs with er | q
      · rw [hd] at hm
        obtain ⟨rfl, he, -⟩ := hm
        exact (endN_not (by show (er : Int) ≠ 0; omega)).symm
      · rw [hd] at hm
        exact hm.1
    · rcases hd : decB cs xs with er | q
      · rw [hd] at hm
        exact ⟨none, 0, 0, hm.2.2, (fun q h => by cases h), (fun e h => by cases h; exact ⟨⟨rfl, rfl, rfl⟩, hm.2.1⟩)⟩
      · rw [hd] at hm
        obtain ⟨-, I, k, d, g1, g2⟩ := hm
        exact ⟨I, k, d, g1, (fun q h => by cases h; exact g2.mono (by omega)), (fun e h => by cases h)⟩))
  have Hs2 := Lib.hid hs2
  have Hb := Lib.hid hb
  clear hr hT hw3 B0 B1 B2 B3 hs3 hs2 hW3 hx
  go_enter Tryz.func22, Tryz.ntmps22
  obtain ⟨R, hR⟩ : ∃ R, R = decB cs xs := ⟨_, rfl⟩
  rw [← hR] at HK ⊢
  obtain ⟨q, hq⟩ : ∃ q, q = decV R := ⟨_, rfl⟩
  rw [← hq] at HK
  have Hq := Lib.hid hq
  clear hR hq
  obtain ⟨E, V, S⟩ := q
  simp only at HK
  go_wp2_with fail
  rw [← hW2, ← hb]
  have Hw := Lib.hid hW2
  clear hW2 hb
  with_reducible refine HK.out.mono ?_
  rintro e w1 ⟨E2, w2, rfl, ⟨rfl, ⟨I, k, d, g1, g2, g3⟩, g5⟩, hE, rfl⟩
  have H1 := Lib.hid (g1.far (p := ⟨W2.heap.size, 0, none⟩) (by have := Hs2.out; show b + 2 ≠ W2.heap.size; omega) (.int .i64 E2))
  have HI := Lib.hid (show ∀ q, R = .ok q → ItemsOwn (w2.setCell ⟨W2.heap.size, 0, none⟩ (.int .i64 E2)) b I k d q.2.2 from fun q h => (g2 q h).far hE (by decide) (by decide) 0 _)
  have HE := Lib.hid g3
  have HB := Lib.hid (g5.setCell (p := ⟨W2.heap.size, 0, none⟩) (by have := Hs2.out; show b ≤ W2.heap.size; omega) (.int .i64 E2))
  clear g1 g2 g3 g5 hE HK
  generalize w2.setCell ⟨W2.heap.size, 0, none⟩ (.int .i64 E2) = w5 at *
  have k0 := H1.out.cell 0
  have k1 := H1.out.cell 1
  have k2 := H1.out.cell 2
  have f0 := H1.out.frozen 0
  have f1 := H1.out.frozen 1
  have f2 := H1.out.frozen 2
  rw [show b + 1 + 1 = b + 2 from rfl]
  go_wp2
  have H2 := same_set3b H1.out
  have c0 := H2.cell 0
  have c1 := H2.cell 1
  have c2 := H2.cell 2
  have HI2 := Lib.hid (show ∀ q, R = .ok q → ItemsOwn (((w5.setCell ⟨b + 2, 0, none⟩ (.int .i64 V)).setCell ⟨b + 2, 1, none⟩ (.int .i64 S)).setCell ⟨b + 2, 2, none⟩ (.slice I k d)) b I k d q.2.2 from fun q h => (((HI.out q h).far H1.out (by decide) (by decide) 0 _).far (H1.out.set_ 0 _) (by decide) (by decide) 1 _).far ((H1.out.set_ 0 _).set_ 1 _) (by decide) (by decide) 2 _)
  have HB2 := Lib.hid (((HB.out.setCell (p := ⟨b + 2, 0, none⟩) (by show b ≤ b + 2; omega) (.int .i64 V)).setCell (p := ⟨b + 2, 1, none⟩) (by show b ≤ b + 2; omega) (.int .i64 S)).setCell (p := ⟨b + 2, 2, none⟩) (by show b ≤ b + 2; omega) (.slice I k d))
  refine bodyPost_ret (v := .tuple #[.agg #[.int .i64 V, .int .i64 S, .slice I k d], .int .i64 E2]) (by rw [results_cell_tmp rfl]; simp [go_sem, c0, c1, c2]) rfl ?_
  refine ⟨by rw [← Hb.out]; exact HB2.out, ?_⟩
  rw [← Hb.out]
  rcases R with er | q
  · obtain ⟨⟨rfl, rfl, rfl⟩, he⟩ := HE.out er rfl
    have := Hq.out
    cases this
    exact ⟨rfl, he⟩
  · have := Hq.out
    cases this
    exact ⟨I, k, d, rfl, HI2.out q rfl⟩
end Go.Proofs.YtdajddkbkbnoiaaGreatDoor
namespace Go.Proofs.YtdajddkbkbnoiaaGreatDoor
open Go.RowKit
theorem cos_take (l : List Co) (k : Nat) : (cos l).take (k * 7) = cos (l.take k) := by
  induction l generalizing k with
  | nil => simp [cos]
  | cons c l ih =>
    cases k with
    | zero => simp [cos]
    | succ k =>
      have := ih k
      simp only [cos, List.flatMap_cons, List.take_succ_cons] at this ⊢
      rw [← this, show (k + 1) * 7 = 7 + k * 7 by omega]
      have h7 : (coV c).length = 7 := rfl
      rw [List.take_append, h7, List.take_of_length_le (by omega)]
      simp
theorem columns17_any (A : Option Addr) (n c : Nat) (l : List Co) (w : World) (hr : Reads w w.heap.size 7 A n (cos l)) (hn : n ≤ c) (hc : c ≤ maxLen) :
    Calls Tryz.prog 39 #[.slice A n c] w fun e w' => ∃ A' k c', e = .returned (.slice A' k c') ∧ k ≤ 40 ∧ w'.ownsRow w.heap.size 62 7 (.slice A' k c') k (cos (l.take 40)) ∧ Below w.heap.size w w' := by
  obtain ⟨mn, hmn⟩ : ∃ mn : Nat, mn = min n 40 := ⟨_, rfl⟩
  have hmi : min (n : Int) 40 = (mn : Int) := by omega
  have h1 : mn ≤ n := by omega
  have h2 : mn ≤ 40 := by omega
  have h3 : mn ≤ c := by omega
  have h4 : (mn : Int) ≤ (c : Int) := by omega
  have hc63 : c ≤ 9223372036854775807 := by simp only [maxLen] at hc; omega
  have ht := hr.head h1
  rw [cos_take] at ht
  have hE : l.take mn = l.take 40 := by
    have := cos_len hr
    rcases Nat.lt_or_ge n 40 with h | h
    · rw [List.take_of_length_le (by omega), List.take_of_length_le (by omega)]
    · rw [show mn = 40 by omega]
  rw [hE] at ht
  have HK := Lib.hid (copyCols_any A mn c (l.take 40) w ht (by omega))
  clear hmn hr ht hE
  go_enter Tryz.func39, Tryz.ntmps39
  go_wp2_with fail
  with_reducible refine HK.out.mono ?_
  rintro e w1 ⟨A', c', rfl, -, -, q3, q4⟩
  have HO := Lib.hid q3
  have HB := Lib.hid q4
  clear q3 q4
  go_wp2
  go_ret
  exact ⟨A', mn, c', rfl, h2, HO.out, HB.out⟩
theorem bytes17_any (A : Option Addr) (n c : Nat) (l : List UInt8) (w : World) (hr : Reads w w.heap.size 1 A n (u8s l)) (hn : n ≤ c) (hc : c ≤ maxLen) :
    Calls Tryz.prog 40 #[.slice A n c] w fun e w' => ∃ A' k c', e = .returned (.slice A' k c') ∧ k ≤ c' ∧ c' ≤ maxLen ∧ w'.ownsRow w.heap.size 5 1 (.slice A' k c') k (u8s (l.take 2000)) ∧ Below w.heap.size w w' := by
  obtain ⟨mn, hmn⟩ : ∃ mn : Nat, mn = min n 2000 := ⟨_, rfl⟩
  have hmi : min (n : Int) 2000 = (mn : Int) := by omega
  have h1 : mn ≤ n := by omega
  have h3 : mn ≤ c := by omega
  have h4 : (mn : Int) ≤ (c : Int) := by omega
  have hc63 : c ≤ 9223372036854775807 := by simp only [maxLen] at hc; omega
  have ht := hr.head h1
  rw [Nat.mul_one, u8s_take] at ht
  have hE : l.take mn = l.take 2000 := by
    have := reads_len hr
    rcases Nat.lt_or_ge n 2000 with h | h
    · rw [List.take_of_length_le (by omega), List.take_of_length_le (by omega)]
    · rw [show mn = 2000 by omega]
  rw [hE] at ht
  have HK := Lib.hid (copyBytes_any A mn c (l.take 2000) w ht (by omega))
  clear hmn hr ht hE
  go_enter Tryz.func40, Tryz.ntmps40
  go_wp2_with fail
  with_reducible refine HK.out.mono ?_
  rintro e w1 ⟨A', c', rfl, q1, q2, q3, q4⟩
  have HO := Lib.hid q3
  have HB := Lib.hid q4
  have HC := Lib.hid (And.intro q1 q2)
  clear q3 q4 q1 q2
  go_wp2
  go_ret
  exact ⟨A', mn, c', rfl, HC.out.1, HC.out.2, HO.out, HB.out⟩
def twoC : List Co := [(0, ⟨#[]⟩, 2, false, false, 0, ⟨#[]⟩), (0, ⟨#[]⟩, 4, false, false, 0, ⟨#[]⟩)]
theorem reads_litc (w : World) (cs : Array Value) (l : List Co) (b n : Nat) (hb : b = w.heap.size) (h : cs.toList = cos l) (hn : l.length = n) :
    Reads (w.alloc (.cells cs 62)) (w.alloc (.cells cs 62)).heap.size 7 (some ⟨b, 0, none⟩) n (cos l) := by
  subst hb hn
  refine ⟨by rw [cos_length]; omega, fun _ => ⟨_, rfl, by simp, fun j u hu => ?_⟩⟩
  have hadd : (⟨w.heap.size, 0, none⟩ : Addr).add j = ⟨w.heap.size, j, none⟩ := by unfold Addr.add; split <;> simp_all
  rw [hadd, cell_of_row _ w.heap.size j cs 62 (0, 0) (heap_alloc_new w _)]
  simpa [← h] using hu
set_option maxRecDepth 100000 in
theorem two_any (w : World) :
    Calls Tryz.prog 48 #[] w fun e w' => e = .returned (.slice (some ⟨w.heap.size, 0, none⟩) 2 2) ∧ Reads w' w'.heap.size 7 (some ⟨w.heap.size, 0, none⟩) 2 (cos twoC) ∧ Below w.heap.size w w' := by
  go_enter Tryz.func48, Tryz.ntmps48
  go_wp2
  go_ret
  exact ⟨rfl, reads_litc _ _ _ _ _ rfl rfl rfl, (Below.refl _ _).alloc (Nat.le_refl _) _⟩
theorem four_reads (s : Nat) (w : World) (g : Nat) (hg : g = w.heap.size) (a b c d : Int) (ha : a = ((s % 256 : Nat) : Int)) (hb : b = ((s / 256 % 256 : Nat) : Int)) (hc : c = ((s / 65536 % 256 : Nat) : Int)) (hd : d = ((s / 16777216 % 256 : Nat) : Int)) :
    Reads (w.alloc (.cells #[.int .u8 a, .int .u8 b, .int .u8 c, .int .u8 d] 5)) (w.alloc (.cells #[.int .u8 a, .int .u8 b, .int .u8 c, .int .u8 d] 5)).heap.size 1 (some ⟨g, 0, none⟩) 4 (u8s (sumB s)) := by
  subst hg
  obtain ⟨g, h, hg, ho, -⟩ := four_new s w a b c d ha hb hc hd
  cases h
  exact own_reads ho
set_option maxRecDepth 100000 in
set_option maxHeartbeats 1000000 in
theorem summed_any (A : Option Addr) (n c : Nat) (l : List UInt8) (w : World) (hr : Reads w w.heap.size 1 A n (u8s l)) (hn : n ≤ 35184372088) (hT : CTab w) :
    Calls Tryz.prog 49 #[.slice A n c] w fun e w' => ∃ A' c', e = .returned (.slice A' (n + 4) c') ∧ n + 4 ≤ c' ∧ c' ≤ maxLen ∧ w'.ownsRow w.heap.size 5 1 (.slice A' (n + 4) c') (n + 4) (u8s (l ++ sumB (crcS l))) ∧ Below w.heap.size w w' := by
  obtain ⟨i0, hi0, hz0, hz1, hz2⟩ := info_parts u8_info
  have HS := Lib.hid (csum_any A n c l w hr (by simp only [maxLen]; omega) hT)
  have HK := Lib.hid (copyBytes_any A n c l w hr (by omega))
  have hs : crcS l < 4294967296 := crcU_lt 0 l
  have Hcells := Lib.hid (sumB_cells (crcS l))
  have Hfour := Lib.hid (fun w a b c d ha hb hc hd => four_new (crcS l) w a b c d ha hb hc hd)
  clear hr hT
  generalize hX : crcS l = X at *
  clear hX
  go_enter Tryz.func49, Tryz.ntmps49
  go_wp2_with fail
  with_reducible refine HS.out.mono ?_
  rintro e w1 ⟨rfl, rfl⟩
  go_wp2_with fail
  with_reducible refine HK.out.mono ?_
  rintro e w2 ⟨A2, c2, rfl, q1, q2, q3, q4⟩
  have HO := Lib.hid q3
  have HB := Lib.hid q4
  clear q1 q2 q3 q4 HS HK
  have hs1 : n + 4 ≤ maxLen := by simp only [maxLen]; omega
  have hs2 : (n + 4) * 1 ≤ 70368744177664 := by omega
  clear Hcells Hfour
  go_wp2_with (at_builtin
               refine wpList_append_any _ rfl (.tmp 7) (.tmp 19) 26 rfl w.heap.size 5 i0 (.int .u8 0) 1 1 Tryz.underlying26 hi0 hz0 hz1 hz2 rfl (by decide) A2 n c2 _ rfl (HO.out.alloc _) (some ⟨_, 0, none⟩) 4 4 (u8s (sumB X)) rfl (by exact four_reads _ _ _ rfl _ _ _ _ (by omega) (by omega) (by omega) (by omega)) (u8s_one _) hs1 hs2 (bal HB.out _).size ?_
               intro A8 c8 w8 r1 r2 r3 r4 r5
               rw [← u8s_append] at r1
               have R1 := Lib.hid r1
               have R2 := Lib.hid ((bal HB.out _).trans r2)
               have R4 := Lib.hid (And.intro r4 r5)
               clear r1 r2 r3 r4 r5)
  go_ret
  exact ⟨A8, c8, rfl, R4.out.1, R4.out.2, R1.out, R2.out⟩
end Go.Proofs.YtdajddkbkbnoiaaGreatDoor
namespace Go.Proofs.YtdajddkbkbnoiaaGreatDoor
open Go.RowKit
def cutTo (r : List Cl) (k : Nat) : List Cl := (r.take k).map cutc
theorem cutTo_succ {r : List Cl} {k : Nat} {c : Cl} (h : r[k]? = some c) : cutTo r (k + 1) = cutTo r k ++ [cutc c] := by
  unfold cutTo
  rw [List.take_add_one, h, List.map_append]
  rfl
theorem cutTo_all {r : List Cl} {k : Nat} (h : k = min r.length 40) : cutTo r k = cutr r := by
  unfold cutTo cutr
  congr 1
  rcases Nat.lt_or_ge r.length 40 with h1 | h1
  · rw [List.take_of_length_le (by omega), List.take_of_length_le (by omega)]
  · rw [show k = 40 by omega]
def cutI (l : List It) (i : Nat) : List It := (l.take i).map cuti
theorem cutI_succ {l : List It} {i : Nat} {it : It} (h : l[i]? = some it) : cutI l (i + 1) = cutI l i ++ [cuti it] := by
  unfold cutI
  rw [List.take_add_one, h, List.map_append]
  rfl
theorem cutI_all {l : List It} {i : Nat} (h : i = min l.length 30) : cutI l i = cutl l := by
  unfold cutI cutl
  congr 1
  rcases Nat.lt_or_ge l.length 30 with h1 | h1
  · rw [List.take_of_length_le (by omega), List.take_of_length_le (by omega)]
  · rw [show i = 30 by omega]
set_option maxRecDepth 100000 in
set_option maxHeartbeats 4000000 in
theorem cut17_any (v s : Int) (I : Option Addr) (m d : Nat) (l : List It) (w : World) (hi : ItemsAt w w.heap.size I m l) (hm : m ≤ maxLen) (hok : ItOk l) :
    Calls Tryz.prog 46 #[.agg #[.int .i64 v, .int .i64 s, .slice I m d]] w fun e w' => ∃ A k c, e = .returned (.agg #[.int .i64 v, .int .i64 s, .slice A k c]) ∧ ItemsOwn w' w.heap.size A k c (cutl l) ∧ Below w.heap.size w w' := by
  obtain ⟨j0, hj0, hk0, hj1, hk2⟩ := info_parts cell_info
  obtain ⟨i0, hi0, hl0, hi1, hl2⟩ := info_parts item_info
  have Hi := Lib.hid hi
  have Hok := Lib.hid hok
  have hm63 : m ≤ 9223372036854775807 := by simp only [maxLen] at hm; omega
  have HB := Lib.hid (bal (bal (bal (Below.refl w.heap.size w) (.cells #[.int .i64 v, .int .i64 s, .slice I m d] 25)) (.cells #[.int .i64 0, .int .i64 0, .slice none 0 0] 25)) (.cells #[.int .i64 v, .int .i64 s, .slice none 0 0] 25))
  have B1 := Lib.hid (((Blk.new w 25 #[.int .i64 v, .int .i64 s, .slice I m d]).alloc (.cells #[.int .i64 0, .int .i64 0, .slice none 0 0] 25)).alloc (.cells #[.int .i64 v, .int .i64 s, .slice none 0 0] 25))
  have B2 := Lib.hid ((Blk.new (w.alloc (.cells #[.int .i64 v, .int .i64 s, .slice I m d] 25)) 25 #[.int .i64 0, .int .i64 0, .slice none 0 0]).alloc (.cells #[.int .i64 v, .int .i64 s, .slice none 0 0] 25))
  have B3 := Lib.hid (Blk.new ((w.alloc (.cells #[.int .i64 v, .int .i64 s, .slice I m d] 25)).alloc (.cells #[.int .i64 0, .int .i64 0, .slice none 0 0] 25)) 25 #[.int .i64 v, .int .i64 s, .slice none 0 0])
  rw [show (w.alloc (.cells #[.int .i64 v, .int .i64 s, .slice I m d] 25)).heap.size = w.heap.size + 1 by simp] at B2
  rw [show ((w.alloc (.cells #[.int .i64 v, .int .i64 s, .slice I m d] 25)).alloc (.cells #[.int .i64 0, .int .i64 0, .slice none 0 0] 25)).heap.size = w.heap.size + 2 by simp] at B3
  clear hi hm hok
  go_enter Tryz.func46, Tryz.ntmps46
  go_wp2
  rw [show w.heap.size + 1 + 1 = w.heap.size + 2 from rfl]
  go_loopw [4, 5] (fun u ix wr => ∃ (i : Nat) (A4 : Option Addr) (c4 : Nat), i ≤ m ∧ i ≤ 30 ∧ u = .slice A4 i c4 ∧ ix = .int .i64 (i : Int) ∧ Hid (ItemsOwn wr w.heap.size A4 i c4 (cutI l i)) ∧ Hid (Blk wr w.heap.size 25 #[.int .i64 v, .int .i64 s, .slice I m d]) ∧ Hid (Blk wr (w.heap.size + 1) 25 #[.int .i64 0, .int .i64 0, .slice none 0 0]) ∧ Hid (Blk wr (w.heap.size + 2) 25 #[.int .i64 v, .int .i64 s, .slice none 0 0]) ∧ Hid (Below w.heap.size w wr)) (fun _ ix _ => m - (intOf ix).toNat)
  case atStart => exact ⟨0, none, 0, Nat.zero_le _, by omega, rfl, rfl, Lib.hid ItemsOwn.nil, B1, B2, B3, HB⟩
  case round =>
    clear HB B1 B2 B3
    obtain ⟨i, A4, c4, hile, hi30, rfl, rfl, HIt, B1, B2, B3, HB⟩ := hrel
    have c2 := B1.out.cell 2
    by_cases hlt : i < m ∧ i < 30
    · obtain ⟨hlt1, hlt2⟩ := hlt
      have d1 : decide ((i : Int) < (m : Int)) = true := by simp; omega
      have d2 : decide ((i : Int) < 30) = true := by simp; omega
      have hii : (i : Int) < (m : Int) := by omega
      have hi1' : i + 1 ≤ m := hlt1
      have hi2' : i + 1 ≤ 30 := hlt2
      obtain ⟨ad, A', c', ⟨r, wt⟩, rfl, hbk, hit, h0, h1, hrow, hc1, hc2⟩ := (Hi.out.below HB.out).at_ hlt1
      simp only at h0 h1 hrow hc1
      have HR0 := Lib.hid (show ∀ w', Below wr.heap.size wr w' → w'.cell? (ad.add (i * 2)) = some (.slice A' r.length c') from fun w' h => (h.cell (World.block_lt_of_cell? _ _ h0)).trans h0)
      have HW := Lib.hid (show ∀ w', Below wr.heap.size wr w' → w'.cell? ⟨(ad.add (i * 2)).block, (ad.add (i * 2)).off + 1, none⟩ = some (.int .i64 wt) from fun w' h => (h.cell (World.block_lt_of_cell? _ _ h1)).trans h1)
      have Hrow := Lib.hid (hrow.more HB.out.size)
      have Hit := Lib.hid hit
      have hrl63 : r.length ≤ 9223372036854775807 := by simp only [maxLen] at hc2; omega
      have Hrk := Lib.hid (Hok.out _ (List.mem_of_getElem? hit)).1
      simp only at Hrk
      clear hit hrow hc1 hc2 h0 h1 hbk
      generalize hrl : r.length = rl at HR0 Hrow hrl63
      have Hrl := Lib.hid hrl
      clear hrl
      generalize wr = Wp at *
      go_wp2
      go_loopw [6, 7] (fun u jx WX => ∃ (k : Nat) (A10 : Option Addr) (c10 : Nat), k ≤ rl ∧ k ≤ 40 ∧ u = .slice A10 k c10 ∧ jx = .int .i64 (k : Int) ∧ Hid (WX.ownsRow Wp.heap.size 60 3 (.slice A10 k c10) k (cls (cutTo r k))) ∧ Hid (Below Wp.heap.size Wp WX)) (fun _ jx _ => rl - (intOf jx).toNat)
      case atStart => exact ⟨0, none, 0, Nat.zero_le _, by omega, rfl, rfl, Lib.hid (World.ownsRow_nil _ _ _ _), Lib.hid (Below.refl _ _)⟩
      case round =>
        clear c2
        obtain ⟨k, A10, c10, hk1, hk40, rfl, rfl, HO, HY⟩ := hrel
        have c2 := (B1.out.on HY.out).cell 2
        have h0 := HR0.out _ HY.out
        by_cases hkt : k < rl ∧ k < 40
        · obtain ⟨hkt1, hkt2⟩ := hkt
          have d3 : decide ((k : Int) < (rl : Int)) = true := by simp; omega
          have d4 : decide ((k : Int) < 40) = true := by simp; omega
          have hki : (k : Int) < (rl : Int) := by omega
          have hk1' : k + 1 ≤ rl := hkt1
          have hk2' : k + 1 ≤ 40 := hkt2
          obtain ⟨ad3, u, x, sx, rfl, hbk3, hx, g0', g1', g2'⟩ := cls_at (Hrow.out.on HY.out) hkt1
          have hsz : sx.size ≤ 9223372036854775807 := by have := (Hrk.out _ (List.mem_of_getElem? hx)).2.2; simp only [maxLen] at this; omega
          obtain ⟨mn, hmn⟩ : ∃ mn : Nat, mn = min sx.size 300 := ⟨_, rfl⟩
          have hmi : min (sx.size : Int) 300 = (mn : Int) := by omega
          have hms : mn ≤ sx.size := by omega
          have Hs := Lib.hid (show cutTo r (k + 1) = cutTo r k ++ [(u, x, sx.extract 0 mn)] by rw [cutTo_succ hx, hmn]; rfl)
          have hs1 : k + 1 ≤ maxLen := by simp only [maxLen]; omega
          have hs2 : (k + 1) * 32 ≤ 70368744177664 := by omega
          clear hx hbk3 hmn
          go_wp2_with (at_builtin
                       refine wpList_append_any _ rfl (.tmp 57) (.tmp 59) 63 rfl Wp.heap.size 60 j0 (.agg #[.bool false, .int .i64 0, .string ⟨#[]⟩]) 3 32 Tryz.underlying63 hj0 hk0 hj1 hk2 rfl (by decide) A10 k c10 _ rfl (own_below HO.out (((Below.refl _ wr).alloc (Nat.le_refl _) (.cells #[.bool u, .int .i64 x, .string (sx.extract 0 mn)] 60)).alloc (by simp) (.cells #[.bool u, .int .i64 x, .string (sx.extract 0 mn)] 60))) (some ⟨_, 0, none⟩) 1 1 (cls [(u, x, sx.extract 0 mn)]) rfl (by exact reads_cellb _ _ (by simp) _ _ _) (cls_one _) hs1 hs2 (Nat.le_trans HY.out.size (by simp; omega)) ?_
                       intro A8 c8 w8 r1 r2 r3 r4 r5
                       rw [← cls_append, ← Hs.out] at r1
                       have R1 := Lib.hid r1
                       have R2 := Lib.hid r2
                       clear r1 r2 r3 r4 r5)
          have HY8 := Lib.hid (((HY.out.alloc HY.out.size (.cells #[.bool u, .int .i64 x, .string (sx.extract 0 mn)] 60)).alloc (Nat.le_trans HY.out.size (by simp)) (.cells #[.bool u, .int .i64 x, .string (sx.extract 0 mn)] 60)).trans R2.out)
          go_roundw
          case rel => exact ⟨k + 1, A8, c8, hk1', hk2', rfl, by go_num, R1, HY8⟩
          case measure => simp [intOf]; omega
        · by_cases hkt1 : k < rl
          · have d3 : decide ((k : Int) < (rl : Int)) = true := by simp; omega
            have d4 : decide ((k : Int) < 40) = false := by simp; omega
            have Hall := Lib.hid (cutTo_all (r := r) (k := k) (by rw [Hrl.out]; omega))
            have HLw := Lib.hid HY.out
            have HBw := Lib.hid (bon HB.out HY.out)
            have B1w := Lib.hid (B1.out.on HY.out)
            have B3w := Lib.hid (B3.out.on HY.out)
            obtain ⟨hs3, g1, g2⟩ := HIt.out.below HY.out
            have G1 := Lib.hid (own_below g1 ((Below.refl wr.heap.size wr).alloc (Nat.le_refl _) (.cells #[.slice A10 k c10, .int .i64 wt] 65)))
            have G2 := Lib.hid (RowsOwn.below g2 ((Below.refl wr.heap.size wr).alloc (Nat.le_refl _) (.cells #[.slice A10 k c10, .int .i64 wt] 65)))
            have HOr := Lib.hid (own_below (own_mono HO.out HB.out.size) ((Below.refl wr.heap.size wr).alloc (Nat.le_refl _) (.cells #[.slice A10 k c10, .int .i64 wt] 65)))
            rw [Hall.out] at HOr
            have B1a := Lib.hid (B1w.out.alloc (.cells #[.slice A10 k c10, .int .i64 wt] 65))
            have B2a := Lib.hid ((B2.out.on HY.out).alloc (.cells #[.slice A10 k c10, .int .i64 wt] 65))
            have B3a := Lib.hid (B3w.out.alloc (.cells #[.slice A10 k c10, .int .i64 wt] 65))
            have HBa := Lib.hid (bal HBw.out (.cells #[.slice A10 k c10, .int .i64 wt] 65))
            have c2 := B1w.out.cell 2
            have hw := HW.out _ HY.out
            have hsa : i + 1 ≤ maxLen := by simp only [maxLen]; omega
            have hsb : (i + 1) * 32 ≤ 70368744177664 := by omega
            have hii : (i : Int) < (m : Int) := by omega
            clear g1 g2
            go_wp2_with (at_builtin
                         refine wpList_append_any _ rfl (.tmp 61) (.tmp 70) 23 rfl w.heap.size 65 i0 (.agg #[.slice none 0 0, .int .i64 0]) 2 32 Tryz.underlying23 hi0 hl0 hi1 hl2 rfl (by decide) A4 i c4 _ rfl G1.out (some ⟨_, 0, none⟩) 1 1 (itV (A10, k, c10) (cutr r, wt)) rfl (by exact reads_item _ _ rfl (A10, k, c10) (cutr r, wt)) (itV_one _ _) hsa hsb HBa.out.size ?_
                         intro A8 c8 w8 r1 r2 r3 r4 r5
                         have R1 := Lib.hid r1
                         have R2 := Lib.hid r2
                         have R3 := Lib.hid r3
                         clear r1 r2 r3 r4 r5)
            have B18 := Lib.hid (B1a.out.apart G1.out (by decide) R3.out)
            have B28 := Lib.hid (B2a.out.apart G1.out (by decide) R3.out)
            have B38 := Lib.hid (B3a.out.apart G1.out (by decide) R3.out)
            have HB8 := Lib.hid (HBa.out.trans R2.out)
            have HI8 := Lib.hid (items_app (hd := (A10, k, c10)) (it := (cutr r, wt)) G1.out G2.out HOr.out R3.out R1.out)
            have hcs := cutI_succ Hit.out
            rw [show cuti (r, wt) = (cutr r, wt) from rfl] at hcs
            rw [← hcs] at HI8
            clear hcs
            go_roundw
            case rel => exact ⟨i + 1, A8, c8, hi1', hi2', rfl, by go_num, HI8, B18, B28, B38, HB8⟩
            case measure => simp [intOf]; omega
          · have d3 : decide ((k : Int) < (rl : Int)) = false := by simp; omega
            have Hall := Lib.hid (cutTo_all (r := r) (k := k) (by rw [Hrl.out]; omega))
            have HLw := Lib.hid HY.out
            have HBw := Lib.hid (bon HB.out HY.out)
            have B1w := Lib.hid (B1.out.on HY.out)
            have B3w := Lib.hid (B3.out.on HY.out)
            obtain ⟨hs3, g1, g2⟩ := HIt.out.below HY.out
            have G1 := Lib.hid (own_below g1 ((Below.refl wr.heap.size wr).alloc (Nat.le_refl _) (.cells #[.slice A10 k c10, .int .i64 wt] 65)))
            have G2 := Lib.hid (RowsOwn.below g2 ((Below.refl wr.heap.size wr).alloc (Nat.le_refl _) (.cells #[.slice A10 k c10, .int .i64 wt] 65)))
            have HOr := Lib.hid (own_below (own_mono HO.out HB.out.size) ((Below.refl wr.heap.size wr).alloc (Nat.le_refl _) (.cells #[.slice A10 k c10, .int .i64 wt] 65)))
            rw [Hall.out] at HOr
            have B1a := Lib.hid (B1w.out.alloc (.cells #[.slice A10 k c10, .int .i64 wt] 65))
            have B2a := Lib.hid ((B2.out.on HY.out).alloc (.cells #[.slice A10 k c10, .int .i64 wt] 65))
            have B3a := Lib.hid (B3w.out.alloc (.cells #[.slice A10 k c10, .int .i64 wt] 65))
            have HBa := Lib.hid (bal HBw.out (.cells #[.slice A10 k c10, .int .i64 wt] 65))
            have c2 := B1w.out.cell 2
            have hw := HW.out _ HY.out
            have hsa : i + 1 ≤ maxLen := by simp only [maxLen]; omega
            have hsb : (i + 1) * 32 ≤ 70368744177664 := by omega
            have hii : (i : Int) < (m : Int) := by omega
            clear g1 g2
            go_wp2_with (at_builtin
                         refine wpList_append_any _ rfl (.tmp 61) (.tmp 70) 23 rfl w.heap.size 65 i0 (.agg #[.slice none 0 0, .int .i64 0]) 2 32 Tryz.underlying23 hi0 hl0 hi1 hl2 rfl (by decide) A4 i c4 _ rfl G1.out (some ⟨_, 0, none⟩) 1 1 (itV (A10, k, c10) (cutr r, wt)) rfl (by exact reads_item _ _ rfl (A10, k, c10) (cutr r, wt)) (itV_one _ _) hsa hsb HBa.out.size ?_
                         intro A8 c8 w8 r1 r2 r3 r4 r5
                         have R1 := Lib.hid r1
                         have R2 := Lib.hid r2
                         have R3 := Lib.hid r3
                         clear r1 r2 r3 r4 r5)
            have B18 := Lib.hid (B1a.out.apart G1.out (by decide) R3.out)
            have B28 := Lib.hid (B2a.out.apart G1.out (by decide) R3.out)
            have B38 := Lib.hid (B3a.out.apart G1.out (by decide) R3.out)
            have HB8 := Lib.hid (HBa.out.trans R2.out)
            have HI8 := Lib.hid (items_app (hd := (A10, k, c10)) (it := (cutr r, wt)) G1.out G2.out HOr.out R3.out R1.out)
            have hcs := cutI_succ Hit.out
            rw [show cuti (r, wt) = (cutr r, wt) from rfl] at hcs
            rw [← hcs] at HI8
            clear hcs
            go_roundw
            case rel => exact ⟨i + 1, A8, c8, hi1', hi2', rfl, by go_num, HI8, B18, B28, B38, HB8⟩
            case measure => simp [intOf]; omega
    · by_cases hlt1 : i < m
      · have d1 : decide ((i : Int) < (m : Int)) = true := by simp; omega
        have d2 : decide ((i : Int) < 30) = false := by simp; omega
        have hcl := cutI_all (l := l) (i := i) (by rw [Hi.out.len]; omega)
        rw [hcl] at HIt
        clear hcl
        have p0 := B3.out.cell 0
        have p1 := B3.out.cell 1
        have p2 := B3.out.cell 2
        have q0 := B3.out.frozen 0
        have q1 := B3.out.frozen 1
        have q2 := B3.out.frozen 2
        have r0 := B2.out.cell 0
        have r1 := B2.out.cell 1
        have r2 := B2.out.cell 2
        have s0 := B2.out.frozen 0
        have s1 := B2.out.frozen 1
        have s2 := B2.out.frozen 2
        go_wp2
        have H3a := B3.out.set_ 2 (.slice A4 i c4)
        have H2a := (((B2.out.far (p := ⟨w.heap.size + 2, 2, none⟩) (by show w.heap.size + 1 ≠ w.heap.size + 2; omega) (.slice A4 i c4)).set_ 0 (.int .i64 v)).set_ 1 (.int .i64 s)).set_ 2 (.slice A4 i c4)
        simp only [List.setIfInBounds_toArray, List.set_cons_zero, List.set_cons_succ] at H2a H3a
        have e0 := H2a.cell 0
        have e1 := H2a.cell 1
        have e2 := H2a.cell 2
        have HB2 := Lib.hid ((((HB.out.setCell (p := ⟨w.heap.size + 2, 2, none⟩) (by show w.heap.size ≤ w.heap.size + 2; omega) (.slice A4 i c4)).setCell (p := ⟨w.heap.size + 1, 0, none⟩) (by show w.heap.size ≤ w.heap.size + 1; omega) (.int .i64 v)).setCell (p := ⟨w.heap.size + 1, 1, none⟩) (by show w.heap.size ≤ w.heap.size + 1; omega) (.int .i64 s)).setCell (p := ⟨w.heap.size + 1, 2, none⟩) (by show w.heap.size ≤ w.heap.size + 1; omega) (.slice A4 i c4))
        have HIf := Lib.hid (((HIt.out.far B3.out (by decide) (by decide) 2 (.slice A4 i c4)).far (B2.out.far (p := ⟨w.heap.size + 2, 2, none⟩) (by show w.heap.size + 1 ≠ w.heap.size + 2; omega) (.slice A4 i c4)) (by decide) (by decide) 0 (.int .i64 v)).far ((B2.out.far (p := ⟨w.heap.size + 2, 2, none⟩) (by show w.heap.size + 1 ≠ w.heap.size + 2; omega) (.slice A4 i c4)).set_ 0 (.int .i64 v)) (by decide) (by decide) 1 (.int .i64 s))
        have HIg := Lib.hid (HIf.out.far (((B2.out.far (p := ⟨w.heap.size + 2, 2, none⟩) (by show w.heap.size + 1 ≠ w.heap.size + 2; omega) (.slice A4 i c4)).set_ 0 (.int .i64 v)).set_ 1 (.int .i64 s)) (by decide) (by decide) 2 (.slice A4 i c4))
        refine bodyPost_ret (v := .agg #[.int .i64 v, .int .i64 s, .slice A4 i c4]) (by simp [results, Tryz.results46, go_sem, e0, e1, e2]) rfl ?_
        exact ⟨A4, i, c4, rfl, HIg.out, HB2.out⟩
      · have d1 : decide ((i : Int) < (m : Int)) = false := by simp; omega
        have hcl := cutI_all (l := l) (i := i) (by rw [Hi.out.len]; omega)
        rw [hcl] at HIt
        clear hcl
        have p0 := B3.out.cell 0
        have p1 := B3.out.cell 1
        have p2 := B3.out.cell 2
        have q0 := B3.out.frozen 0
        have q1 := B3.out.frozen 1
        have q2 := B3.out.frozen 2
        have r0 := B2.out.cell 0
        have r1 := B2.out.cell 1
        have r2 := B2.out.cell 2
        have s0 := B2.out.frozen 0
        have s1 := B2.out.frozen 1
        have s2 := B2.out.frozen 2
        go_wp2
        have H3a := B3.out.set_ 2 (.slice A4 i c4)
        have H2a := (((B2.out.far (p := ⟨w.heap.size + 2, 2, none⟩) (by show w.heap.size + 1 ≠ w.heap.size + 2; omega) (.slice A4 i c4)).set_ 0 (.int .i64 v)).set_ 1 (.int .i64 s)).set_ 2 (.slice A4 i c4)
        simp only [List.setIfInBounds_toArray, List.set_cons_zero, List.set_cons_succ] at H2a H3a
        have e0 := H2a.cell 0
        have e1 := H2a.cell 1
        have e2 := H2a.cell 2
        have HB2 := Lib.hid ((((HB.out.setCell (p := ⟨w.heap.size + 2, 2, none⟩) (by show w.heap.size ≤ w.heap.size + 2; omega) (.slice A4 i c4)).setCell (p := ⟨w.heap.size + 1, 0, none⟩) (by show w.heap.size ≤ w.heap.size + 1; omega) (.int .i64 v)).setCell (p := ⟨w.heap.size + 1, 1, none⟩) (by show w.heap.size ≤ w.heap.size + 1; omega) (.int .i64 s)).setCell (p := ⟨w.heap.size + 1, 2, none⟩) (by show w.heap.size ≤ w.heap.size + 1; omega) (.slice A4 i c4))
        have HIf := Lib.hid (((HIt.out.far B3.out (by decide) (by decide) 2 (.slice A4 i c4)).far (B2.out.far (p := ⟨w.heap.size + 2, 2, none⟩) (by show w.heap.size + 1 ≠ w.heap.size + 2; omega) (.slice A4 i c4)) (by decide) (by decide) 0 (.int .i64 v)).far ((B2.out.far (p := ⟨w.heap.size + 2, 2, none⟩) (by show w.heap.size + 1 ≠ w.heap.size + 2; omega) (.slice A4 i c4)).set_ 0 (.int .i64 v)) (by decide) (by decide) 1 (.int .i64 s))
        have HIg := Lib.hid (HIf.out.far (((B2.out.far (p := ⟨w.heap.size + 2, 2, none⟩) (by show w.heap.size + 1 ≠ w.heap.size + 2; omega) (.slice A4 i c4)).set_ 0 (.int .i64 v)).set_ 1 (.int .i64 s)) (by decide) (by decide) 2 (.slice A4 i c4))
        refine bodyPost_ret (v := .agg #[.int .i64 v, .int .i64 s, .slice A4 i c4]) (by simp [results, Tryz.results46, go_sem, e0, e1, e2]) rfl ?_
        exact ⟨A4, i, c4, rfl, HIg.out, HB2.out⟩
end Go.Proofs.YtdajddkbkbnoiaaGreatDoor
namespace Go.Proofs.YtdajddkbkbnoiaaGreatDoor
open Go.RowKit
set_option maxRecDepth 100000 in
set_option maxHeartbeats 1000000 in
theorem bfails_yes (er : Nat) (ei : Int) (hei : ei = (er : Int)) (B : Option Addr) (m cb : Nat) (xs : List UInt8) (w : World) (hx : Reads w w.heap.size 1 B m (u8s xs)) (hm : m ≤ cb) (hc : cb ≤ maxLen) (hT : Tab2 w.heap.size w) (hd : decB twoC xs = .error er) :
    Calls Tryz.prog 79 #[.slice B m cb, .int .i64 ei] w fun e w' => e = .returned (.bool true) ∧ Below w.heap.size w w' := by
  have Hx := Lib.hid hx
  have HT := Lib.hid hT
  have Hd := Lib.hid hd
  subst hei
  clear hx hT hd
  go_enter Tryz.func79, Tryz.ntmps79
  go_wp2_with fail
  with_reducible refine (two_any _).mono ?_
  rintro e w1 ⟨rfl, hr, hb1⟩
  have HB := Lib.hid hb1
  have HR := Lib.hid hr
  clear hb1 hr
  go_wp2_with fail
  with_reducible refine (bdec_any (some ⟨w.heap.size, 0, none⟩) 2 2 twoC B m cb xs w1 HR.out (by decide) (Hx.out.on HB.out) hm hc (HT.out.on HB.out)).mono ?_
  rintro e w2 ⟨hb2, hm2⟩
  rw [Hd.out] at hm2
  obtain ⟨rfl, he⟩ := hm2
  have HB := Lib.hid (bal (bon HB.out hb2) (.cells #[.int .i64 0, .int .i64 0, .slice none 0 0] 25))
  clear hb2 he HR
  go_wp2_with fail
  with_reducible refine (bsame_any 0 0 none 0 0 [] 0 0 none 0 0 [] _ (ItemsOwn.nil (base := w.heap.size)).at_ (ItemsOwn.nil (base := w.heap.size)).at_ (by decide)).mono ?_
  rintro e w3 ⟨rfl, hb3⟩
  have HB := Lib.hid (bon HB.out hb3)
  clear hb3
  rw [sameBa_self]
  go_wp2
  go_ret
  exact ⟨rfl, HB.out⟩
set_option maxRecDepth 100000 in
set_option maxHeartbeats 1000000 in
theorem brefused_yes (ei : Int) (v s : Int) (I : Option Addr) (m d : Nat) (l : List It) (w : World) (hi : ItemsAt w w.heap.size I m l) (hm : m ≤ maxLen) (hok : BaOk (v, s, l)) (hcl : ItOk l) (hT : Tab2 w.heap.size w) (hne : ei ≠ 0) (hd : batE twoC (v, s, l) = ei) :
    Calls Tryz.prog 78 #[.agg #[.int .i64 v, .int .i64 s, .slice I m d], .int .i64 ei] w fun e w' => e = .returned (.bool true) ∧ Below w.heap.size w w' := by
  have Hi := Lib.hid hi
  have HT := Lib.hid hT
  have Hd := Lib.hid hd
  have Hne := Lib.hid hne
  have Hok := Lib.hid hok
  have Hcl := Lib.hid hcl
  have HB := Lib.hid (bal (Below.refl w.heap.size w) (.cells #[.int .i64 v, .int .i64 s, .slice I m d] 25))
  have HP := Lib.hid (Blk.new w 25 #[.int .i64 v, .int .i64 s, .slice I m d])
  clear hi hT hd hne hok hcl
  go_enter Tryz.func78, Tryz.ntmps78
  go_wp2
  generalize hW : w.alloc (.cells #[.int .i64 v, .int .i64 s, .slice I m d] 25) = W1 at *
  clear hW
  have HL0 := Lib.hid (show ∀ w', Below W1.heap.size W1 w' → w'.cell? ⟨w.heap.size, 0, none⟩ = some (.int .i64 v) from fun w' h => (HP.out.on h).cell 0)
  have HL1 := Lib.hid (show ∀ w', Below W1.heap.size W1 w' → w'.cell? ⟨w.heap.size, 1, none⟩ = some (.int .i64 s) from fun w' h => (HP.out.on h).cell 1)
  have HL2 := Lib.hid (show ∀ w', Below W1.heap.size W1 w' → w'.cell? ⟨w.heap.size, 2, none⟩ = some (.slice I m d) from fun w' h => (HP.out.on h).cell 2)
  have hS : Below W1.heap.size W1 W1.drew := (Below.refl _ _).drew
  refine wp_region_keep (fun w' => Below W1.heap.size W1 w') [(1, false), (0, true), (2, true), (3, false), (4, false), (5, false), (6, false), (7, false)] (by kernel_rfl) (by kernel_rfl) (by kernel_rfl) (fun d _ _ _ _ h => by cases d <;> exact h) ?_
  refine held_pure (v := ?_) rfl rfl (by simp [Region.wanted, yielded]) hS ?_ ?_
  rotate_left
  · intro w hw; have c0 := HL0.out w hw; have c1 := HL1.out w hw; have c2 := HL2.out w hw; clear hw; go_simp; try with_reducible rfl
  try simp only [Act.put, List.setIfInBounds_toArray, List.set_cons_succ, List.set_cons_zero]
  refine held_eff1 rfl (by simp [Region.wanted, yielded]) fun K hK => ?_
  go_simp
  with_reducible refine (two_any _).mono ?_
  rintro e w2 ⟨rfl, hr, hb2⟩
  have HS2 := Lib.hid (bon hS hb2)
  have HR := Lib.hid (show Reads w2 w2.heap.size 7 (some ⟨W1.heap.size, 0, none⟩) 2 (cos twoC) from hr)
  clear hr hb2
  refine held_go hK (by exact HS2.out) fun hS => ?_
  clear hK K
  try simp only [Act.put, List.setIfInBounds_toArray, List.set_cons_succ, List.set_cons_zero]
  refine held_eff1 rfl (by simp [Region.wanted, yielded]) fun K hK => ?_
  go_simp
  with_reducible refine (benc_any (some ⟨W1.heap.size, 0, none⟩) 2 2 twoC v s I m d l _ HR.out (by decide) (Hi.out.on (bon HB.out HS2.out)) (by exact hm) Hok.out Hcl.out (HT.out.on (bon HB.out HS2.out))).mono ?_
  rintro e w3 ⟨hb3, hm3⟩
  rw [Hd.out] at hm3
  rcases hm3 with ⟨h0, -⟩ | ⟨-, rfl⟩
  · exact absurd h0 Hne.out
  have HS3 := Lib.hid (bon HS2.out hb3)
  clear hb3
  refine held_go hK (by exact HS3.out) fun hS => ?_
  clear hK K
  try simp only [Act.put, List.setIfInBounds_toArray, List.set_cons_succ, List.set_cons_zero]
  iterate 5
    refine held_pure (v := ?_) rfl rfl (by simp [Region.wanted, yielded]) hS ?_ ?_
    rotate_left
    · intro w hw; go_simp; try with_reducible rfl
    try simp only [Act.put, List.setIfInBounds_toArray, List.set_cons_succ, List.set_cons_zero]
  refine held_end ?_
  have HBf := Lib.hid (bon HB.out HS3.out)
  have de : (ei == ei) = true := by simp
  go_wp2
  go_ret
  exact ⟨rfl, HBf.out⟩
end Go.Proofs.YtdajddkbkbnoiaaGreatDoor
