/- Part 22 of the walks, merged: each text under its own heading. Conditions: none of its own; each lemma states what it asks. -/
import Derived.Test.YtnkgchmkmhdcaaaGreatDoorGk11
import Derived.Test.YtnkgchmkmhdcaaaGreatDoorGk21
set_option linter.unusedVariables false
set_option linter.unusedSimpArgs false
namespace Go.Proofs.YtnkgchmkmhdcaaaGreatDoor
open Go.RowKit
set_option maxRecDepth 100000 in
theorem gthere_any (u : Bool) (x : Int) (s : ByteArray) (w : World) :
  Calls Tryz.prog 292 #[.agg #[.bool u, .int .i64 x, .string s]] w fun e w' => e = .returned (.bool (!u)) ∧ Below w.heap.size w w' := by
 go_enter Tryz.func292, Tryz.ntmps292
 go_wp2
 go_ret
 exact ⟨rfl, bal (Below.refl _ _) _⟩
set_option maxRecDepth 100000 in
theorem gisone_any (u : Bool) (x : Int) (s : ByteArray) (w : World) :
  Calls Tryz.prog 294 #[.agg #[.bool u, .int .i64 x, .string s]] w fun e w' => e = .returned (.bool (x == 1)) ∧ Below w.heap.size w w' := by
 go_enter Tryz.func294, Tryz.ntmps294
 go_wp2
 go_ret
 exact ⟨rfl, bal (Below.refl _ _) _⟩
def sliceLen : Value → Nat
 | .slice _ n _ => n
 | _ => 0
structure AskOk (d : FuncId) (isP : Cl → Bool) : Prop where
 call : ∀ u x s W, Calls Tryz.prog d #[.agg #[.bool u, .int .i64 x, .string s]] W fun e w' => e = .returned (.bool (isP (u, x, s))) ∧ Below W.heap.size W w'
 ent : ∀ args w, (callFunc d args).run Tryz.prog w = .ok (.enter d args) w
theorem there_ok : AskOk 292 (fun c => !c.1) := ⟨fun u x s W => gthere_any u x s W, fun args w => callFunc_in Tryz.func292 (by kernel_rfl) (by kernel_rfl) args w⟩
theorem isone_ok : AskOk 294 (fun c => c.2.1 == 1) := ⟨fun u x s W => gisone_any u x s W, fun args w => callFunc_in Tryz.func294 (by kernel_rfl) (by kernel_rfl) args w⟩
section
variable {J Jx : List UInt8 → World → Prop} {base B : Nat} {f : FuncId} {caps : Array Value}
def KeptC (base B : Nat) (w : World) (A : Option Addr) (n : Nat) (l : List Cl) : Prop := ∀ wr, Mid base B w wr → Reads wr wr.heap.size 3 A n (cls l)
theorem KeptC.own {w : World} {A : Option Addr} {n c : Nat} {l : List Cl} (ho : w.ownsRow B 23 3 (.slice A n c) n (cls l)) : KeptC base B w A n l := fun wr h => own_reads (own_mid ho h (Nat.le_refl _))
theorem byte_small (l : List Bool) : ((UInt8.ofNat (byteOf (l.take 8))).toNat : Int) = ((byteOf (l.take 8) : Nat) : Int) := by
 rw [ofNat_toNat' _ (byteOf_lt8 _ (List.length_take_le _ _))]
set_option maxRecDepth 100000 in
set_option maxHeartbeats 4000000 in
theorem ymask_any (hy : YOk f caps J Jx base B) {di : FuncId} {isP : Cl → Bool} (ha : AskOk di isP) (A : Option Addr) (n c : Nat) (l : List Cl) (pre : List UInt8) (w : World) (hJ : J pre w) (hn : n ≤ c) (hc : c ≤ maxLen) (hk : KeptC base B w A n l) :
  Calls Tryz.prog 293 #[yv f caps, .slice A n c, .func (.func di) #[] #[]] w (Emit J Jx base B pre (packL (l.map isP)) w) := by
 have hent := hy.ent
 have hent2 := ha.ent
 have Hy := Lib.hid hy
 have Ha := Lib.hid ha
 have HJ := Lib.hid hJ
 have HK := Lib.hid hk
 clear hy hJ hk ha
 go_enter Tryz.func293, Tryz.ntmps293
 go_wp2
 go_loopw [1] (fun v wr => ∃ (A' : Option Addr) (m c' : Nat) (rest : List Cl) (done : List UInt8), v = .slice A' m c' ∧ m ≤ c' ∧ c' ≤ maxLen ∧ Hid (KeptC base B w A' m rest) ∧ Hid (packL (l.map isP) = done ++ packL (rest.map isP)) ∧ Hid (J (pre ++ done) wr) ∧ Hid (Mid base B w wr)) (fun v _ => sliceLen v)
 case atStart => exact ⟨A, n, c, l, [], rfl, hn, hc, HK, Lib.hid rfl, Lib.hid (by simpa using HJ.out), Lib.hid (Mid.refl _ _ _)⟩
 case round =>
  clear HJ HK
  obtain ⟨A', m, c', rest, done, rfl, hm1, hm2, HK, Hd, HJ, HM⟩ := hrel
  have hrl : rest.length = m := cls_len (HK.out _ HM.out)
  have Hrl := Lib.hid hrl
  have hm63 : c' ≤ 9223372036854775807 := by simp only [maxLen] at hm2; omega
  clear hrl
  by_cases hm : 0 < m
  ·have d1 : decide ((0 : Int) < (m : Int)) = true := by simp; omega
   obtain ⟨mn, hmn⟩ : ∃ mn : Nat, mn = min 8 m := ⟨_, rfl⟩
   have hmi : min (8 : Int) (m : Int) = (mn : Int) := by omega
   have h1 : mn ≤ m := by omega
   have h8 : mn ≤ 8 := by omega
   have hmi2 : (mn : Int) ≤ (c' : Int) := by omega
   clear hmn
   generalize wr = W at *
   go_wp2
   go_loopw [7, 24] (fun u ix wr => ∃ i : Nat, i ≤ mn ∧ ix = .int .i64 (i : Int) ∧ u = .int .u8 ((byteOf ((rest.map isP).take i) : Nat) : Int) ∧ Hid (J (pre ++ done) wr) ∧ Hid (Mid base B w wr)) (fun _ ix _ => mn - (intOf ix).toNat)
   case atStart => exact ⟨0, Nat.zero_le _, rfl, rfl, HJ, HM⟩
   case round =>
    clear HJ HM
    obtain ⟨i, hi, rfl, rfl, HJ, HM⟩ := hrel
    by_cases hlt : i < mn
    ·have d2 : decide ((i : Int) < (mn : Int)) = true := by simp; omega
     have hlm : i < m := by omega
     obtain ⟨ad, u, x, s, rfl, hbk, hb, g0, g1, g2⟩ := cls_at (HK.out _ HM.out) hlm
     have hst := byteOf_step (rest.map isP) i (isP (u, x, s)) (by rw [List.getElem?_map, hb]; rfl)
     have hlt2 := byteOf_lt_take (rest.map isP) i
     have Hst := Lib.hid hst
     have hii : (i : Int) < (mn : Int) := by omega
     have hi1 : i + 1 ≤ mn := hlt
     have HMa := Lib.hid (HM.out.alloc (.cells #[.bool u, .int .i64 x, .string s] 23))
     have HJa := Lib.hid (Hy.out.alJ HJ.out (.cells #[.bool u, .int .i64 x, .string s] 23))
     clear hb hbk hst
     generalize byteOf ((rest.map isP).take i) = bb at *
     go_wp2_with fail
     with_reducible refine (Ha.out.call u x s _).mono ?_
     obtain ⟨q, hq⟩ : ∃ q, isP (u, x, s) = q := ⟨_, rfl⟩
     rw [hq] at Hst ⊢
     rintro e w2 ⟨rfl, hb2⟩
     have HM2 := Lib.hid (HMa.out.trans (Mid.of_below hb2))
     have HJ2 := Lib.hid (Hy.out.onJ HJa.out hb2)
     clear hb2 hq g0 g1 g2 HMa HJa
     cases q with
     | true =>
      have Hbo := Lib.hid (bit_or bb i hlt2 (by omega))
      have he : ((2 : Int) ^ i) % 256 = (2 : Int) ^ i := by
       have h2 : (2 : Nat) ^ i ≤ 2 ^ 7 := Nat.pow_le_pow_right (by omega) (by omega)
       have e : ((2 : Int) ^ i) = ((2 ^ i : Nat) : Int) := by rw [Int.natCast_pow]; rfl
       rw [e]
       generalize 2 ^ i = z at h2 ⊢
       omega
      have He := Lib.hid he
      rw [if_pos rfl] at Hst
      clear hlt2 he
      go_wp2
      rw [He.out, Hbo.out]
      go_roundw
      case rel => exact ⟨i + 1, hi1, by go_num, by rw [Hst.out], HJ2, HM2⟩
      case measure => simp [intOf]; omega
     | false =>
      have Hst := Lib.hid (show byteOf ((rest.map isP).take (i + 1)) = bb by have := Hst.out; simpa using this)
      clear hlt2
      go_wp2
      go_roundw
      case rel => exact ⟨i + 1, hi1, by go_num, by rw [Hst.out], HJ2, HM2⟩
      case measure => simp [intOf]; omega
    ·obtain rfl : i = mn := by omega
     have d2 : decide ((i : Int) < (i : Int)) = false := by simp
     have hne : rest.map isP ≠ [] := by
      intro h
      have := congrArg List.length h
      rw [List.length_map, Hrl.out] at this
      simp at this
      omega
     have hch := packL_chunk (rest.map isP) hne
     have htk : (rest.map isP).take i = (rest.map isP).take 8 := by
      rcases Nat.lt_or_ge m 8 with h | h
      ·rw [List.take_of_length_le (by rw [List.length_map, Hrl.out]; omega), List.take_of_length_le (by rw [List.length_map, Hrl.out]; omega)]
      ·rw [show i = 8 by omega]
     have hdr : (rest.map isP).drop 8 = (rest.drop i).map isP := by
      rw [List.map_drop]
      rcases Nat.lt_or_ge m 8 with h | h
      ·rw [List.drop_of_length_le (by rw [List.length_map, Hrl.out]; omega), List.drop_of_length_le (by rw [List.length_map, Hrl.out]; omega)]
      ·rw [show i = 8 by omega]
     rw [htk, ← byte_small]
     rw [hdr] at hch
     obtain ⟨bc, hbc⟩ : ∃ bc, UInt8.ofNat (byteOf ((rest.map isP).take 8)) = bc := ⟨_, rfl⟩
     rw [hbc] at hch ⊢
     have Hd2 := Lib.hid (show packL (l.map isP) = (done ++ [bc]) ++ packL ((rest.drop i).map isP) by rw [Hd.out, hch]; simp)
     have HK2 := Lib.hid (show ∀ c2, c2 = c' → KeptC base B w (if c2 = i then A' else A'.map (·.add (i * 3))) (m - i) (rest.drop i) from fun c2 h2 wr h => by
      subst h2
      rw [← cls_drop]
      exact (HK.out wr h).cut h1 hm1)
     have Hsz := Lib.hid (And.intro hm1 hm2)
     clear hch htk hdr hbc hne
     go_wp2_with fail
     with_reducible refine (Hy.out.call (pre ++ done) bc _ HJ.out).mono ?_
     rintro e w2 ⟨⟨rfl, hJ2⟩ | ⟨rfl, q, hq, hx⟩, hm2'⟩
     ·have HJ2 := Lib.hid (show J (pre ++ (done ++ [bc])) w2 by rw [← List.append_assoc]; exact hJ2)
      have HM2 := Lib.hid (HM.out.trans hm2')
      clear hJ2 hm2' HJ
      obtain ⟨A2, hA2⟩ : ∃ A2, (if c' = i then A' else A'.map (fun x => x.add (i * 3))) = A2 := ⟨_, rfl⟩
      have HK3 := HK2.out c' rfl
      rw [show (fun x : Addr => x.add (i * 3)) = (·.add (i * 3)) from rfl] at hA2
      rw [hA2] at HK3
      have HK3 := Lib.hid HK3
      have hsub : ((m : Int) - (i : Int)) = ((m - i : Nat) : Int) := by omega
      have hsub2 : ((c' : Int) - (i : Int)) = ((c' - i : Nat) : Int) := by omega
      have hle1 : m - i ≤ c' - i := by omega
      have hle2 : c' - i ≤ maxLen := by have := Hsz.out.2; omega
      have hpos : 0 < i := by
       rcases Nat.eq_zero_or_pos i with h | h
       ·omega
       ·exact h
      go_wp2
      go_roundw
      case rel => exact ⟨A2, m - i, c' - i, rest.drop i, done ++ [bc], rfl, hle1, hle2, HK3, Hd2, HJ2, HM2⟩
      case measure => simp [sliceLen]; omega
     ·have HX := Lib.hid (show Emit J Jx base B pre (packL (l.map isP)) w (.returned (.bool false)) w2 by
       refine Emit.no (q := done ++ q) ?_ (by rw [← List.append_assoc]; exact hx) (HM.out.trans hm2')
       rw [Hd2.out, List.append_assoc]
       exact prefix_app (hq.trans (List.prefix_append _ _)))
      clear hq hx hm2'
      go_wp2
      go_ret
      exact HX.out
  ·obtain rfl : m = 0 := by omega
   have hr0 : rest = [] := List.eq_nil_of_length_eq_zero Hrl.out
   subst hr0
   have HX := Lib.hid (show Emit J Jx base B pre (packL (l.map isP)) w (.returned (.bool true)) wr by
    refine Emit.yes ?_ HM.out
    rw [Hd.out]
    have := HJ.out
    rwa [List.map_nil, packL_nil, List.append_nil])
   have d1 : decide ((0 : Int) < ((0 : Nat) : Int)) = false := rfl
   go_wp2
   go_ret
   exact HX.out
end
end Go.Proofs.YtnkgchmkmhdcaaaGreatDoor
namespace Go.Proofs.YtnkgchmkmhdcaaaGreatDoor
open Go.RowKit
theorem gwrap_nat (n : Nat) (h : n ≤ 9223372036854775807) : IntKind.u64.wrap (n : Int) = (n : Int) := by
 simp [IntKind.wrap, IntKind.signed, IntKind.bits]
 omega
theorem Blk.apartG {w w' : World} {g r : Nat} {t : TypeId} {cs : Array Value} (h : Blk w g t cs) (hg : w.grownBy w' (some r)) (hne : g ≠ r) : Blk w' g t cs := (hg.block g h.lt (fun e => hne (Option.some.inj e))).trans h
section
variable {J Jx : List UInt8 → World → Prop} {base B : Nat} {f : FuncId} {caps : Array Value}
set_option maxRecDepth 100000 in
set_option maxHeartbeats 1000000 in
theorem st1_any (hy : YOk f caps J Jx base B) (g : Nat) (pre : List UInt8) (u : Bool) (x : Int) (s : ByteArray) (W : World) (hJ : J pre W) (hg : Blk W g 226 #[yv f caps]) (hs : s.size ≤ maxLen) :
  Calls Tryz.prog 327 (#[.agg #[.bool u, .int .i64 x, .string s]] ++ #[.pointer (some ⟨g, 0, none⟩)]) W (Emit J Jx base B pre (putText s) W) := by
 have Hy := Lib.hid hy
 have HJ := Lib.hid (hy.alJ hJ (.cells #[.bool u, .int .i64 x, .string s] 23))
 have HM := Lib.hid ((Mid.refl base B W).alloc (.cells #[.bool u, .int .i64 x, .string s] 23))
 have hg2 := hg.alloc (.cells #[.bool u, .int .i64 x, .string s] 23)
 have c0 := hg2.cell 0
 clear hy hJ hg hg2
 rw [show (#[Value.agg #[.bool u, .int .i64 x, .string s]] ++ #[Value.pointer (some ⟨g, 0, none⟩)]) = #[Value.agg #[.bool u, .int .i64 x, .string s], Value.pointer (some ⟨g, 0, none⟩)] from rfl]
 go_enter Tryz.func327, Tryz.ntmps327
 go_wp2_with fail
 with_reducible refine (ytext_any Hy.out s pre _ HJ.out hs).mono ?_
 intro e w2 hE
 have HE := Lib.hid (Emit.ahead HM.out hE)
 rcases hE.1 with ⟨rfl, -⟩ | ⟨rfl, -⟩
 ·clear hE
  go_wp2
  go_ret
  exact HE.out
 ·clear hE
  go_wp2
  go_ret
  exact HE.out
set_option maxRecDepth 100000 in
set_option maxHeartbeats 1000000 in
theorem st2_any (hy : YOk f caps J Jx base B) (g g2 g3 : Nat) (n m : Nat) (d : List ByteArray) (pre : List UInt8) (u : Bool) (x : Int) (s : ByteArray) (W : World) (hJ : J pre W) (hg : Blk W g 226 #[yv f caps]) (hg2 : Blk W g2 182 #[.map (some g3)]) (hmap : MapT W g3 n m (atF d)) (hs : s.size ≤ maxLen) (hd : numOf d s < 9223372036854775807) :
  Calls Tryz.prog 328 (#[.agg #[.bool u, .int .i64 x, .string s]] ++ #[.pointer (some ⟨g, 0, none⟩), .pointer (some ⟨g2, 0, none⟩)]) W (Emit J Jx base B pre (leb (numOf d s)) W) := by
 have Hy := Lib.hid hy
 have HJ := Lib.hid (hy.alJ hJ (.cells #[.bool u, .int .i64 x, .string s] 23))
 have HM := Lib.hid ((Mid.refl base B W).alloc (.cells #[.bool u, .int .i64 x, .string s] 23))
 have c0 := (hg.alloc (.cells #[.bool u, .int .i64 x, .string s] 23)).cell 0
 have c2 := (hg2.alloc (.cells #[.bool u, .int .i64 x, .string s] 23)).cell 0
 have Hmap := Lib.hid (hmap.al (.cells #[.bool u, .int .i64 x, .string s] 23))
 obtain ⟨nn, hnn⟩ : ∃ nn, numOf d s = nn := ⟨_, rfl⟩
 have Hat := Lib.hid (show (atF d s).getD 0 = (nn : Int) by
  unfold atF
  rw [← hnn]
  unfold numOf
  cases placeL d s <;> rfl)
 rw [hnn] at hd ⊢
 clear hy hJ hg hg2 hmap hnn
 rw [show (#[Value.agg #[.bool u, .int .i64 x, .string s]] ++ #[Value.pointer (some ⟨g, 0, none⟩), Value.pointer (some ⟨g2, 0, none⟩)]) = #[Value.agg #[.bool u, .int .i64 x, .string s], Value.pointer (some ⟨g, 0, none⟩), Value.pointer (some ⟨g2, 0, none⟩)] from rfl]
 go_enter Tryz.func328, Tryz.ntmps328
 obtain ⟨r, hr⟩ : ∃ r, atF d s = r := ⟨_, rfl⟩
 rw [hr] at Hat
 have Hr := Lib.hid hr
 clear hr
 go_wp2_with (first
  | (at_lookup; refine wpList_mapS_get rfl _ _ _ rfl Hmap.out Tryz.underlying3 Tryz.underlying9 Tryz.underlying182 (zero_int _) s hs r Hr.out rfl rfl ?_))
 rw [Hat.out, gwrap_nat nn (by omega)]
 with_reducible refine (ynumber_any Hy.out nn pre _ HJ.out (by omega)).mono ?_
 intro e w2 hE
 have HE := Lib.hid (Emit.ahead HM.out hE)
 rcases hE.1 with ⟨rfl, -⟩ | ⟨rfl, -⟩
 ·clear hE
  go_wp2
  go_ret
  exact HE.out
 ·clear hE
  go_wp2
  go_ret
  exact HE.out
def txsC (l : List Cl) : List ByteArray := l.map (·.2.2)
set_option maxRecDepth 100000 in
set_option maxHeartbeats 4000000 in
theorem ystrings_any (hy : YOk f caps J Jx base B) (A : Option Addr) (n c : Nat) (l : List Cl) (pre : List UInt8) (w : World) (hJ : J pre w) (ho : w.ownsRow B 23 3 (.slice A n c) n (cls l)) (hn : n ≤ 1099511627776) (hok : ∀ x ∈ l, x.2.2.size ≤ maxLen) :
  Calls Tryz.prog 295 #[yv f caps, .slice A n c] w (Emit J Jx base B pre (putD (txsC l)) w) := by
 obtain ⟨j0, hj0, hk0, hj1, hk2⟩ := info_parts cell_info
 have hent1 : ∀ args w', (callFunc 327 args).run Tryz.prog w' = .ok (.enter 327 args) w' := fun args w' => callFunc_in Tryz.func327 (by kernel_rfl) (by kernel_rfl) args w'
 have hent2 : ∀ args w', (callFunc 328 args).run Tryz.prog w' = .ok (.enter 328 args) w' := fun args w' => callFunc_in Tryz.func328 (by kernel_rfl) (by kernel_rfl) args w'
 have Hent1 := Lib.hid hent1
 have Hent2 := Lib.hid hent2
 have Hy := Lib.hid hy
 have HJ := Lib.hid hJ
 have HO := Lib.hid ho
 have Hln := Lib.hid (cls_len (own_reads ho))
 have Hok := Lib.hid hok
 have hBw := hy.big _ _ hJ
 have hmm := @run_makeMap Tryz.prog
 clear hent1 hent2 hy hJ ho hok
 go_enter Tryz.func295, Tryz.ntmps295
 go_wp2
 clear hmm
 rw [show w.heap.size + 1 + 1 = w.heap.size + 2 from rfl]
 obtain ⟨W0, hW0⟩ : ∃ W0, ((w.alloc (.cells #[yv f caps] 226)).alloc (.map #[] 0)).alloc (.cells #[.map (some (w.heap.size + 1))] 182) = W0 := ⟨_, rfl⟩
 obtain ⟨hB0, hY0, hM0, hP0, hs0⟩ : Below w.heap.size w W0 ∧ Blk W0 w.heap.size 226 #[yv f caps] ∧ MapT W0 (w.heap.size + 1) 0 0 (atF []) ∧ Blk W0 (w.heap.size + 2) 182 #[.map (some (w.heap.size + 1))] ∧ W0.heap.size = w.heap.size + 3 := by
  rw [← hW0]
  have s1 : (w.alloc (.cells #[yv f caps] 226)).heap.size = w.heap.size + 1 := by simp
  have s2 : ((w.alloc (.cells #[yv f caps] 226)).alloc (.map #[] 0)).heap.size = w.heap.size + 2 := by simp
  refine ⟨bal (bal (bal (Below.refl _ _) _) _) _, ((Blk.new w _ _).alloc _).alloc _, ?_, ?_, by simp⟩
  ·have := MapS.al (MapS.made (P := Tryz.prog) (k := 9) (e := 3) (w.alloc (.cells #[yv f caps] 226))) (.cells #[.map (some (w.heap.size + 1))] 182)
   rw [s1] at this
   exact MapS.same this (fun s => by rfl)
  ·have := Blk.new ((w.alloc (.cells #[yv f caps] 226)).alloc (.map #[] 0)) 182 #[.map (some (w.heap.size + 1))]
   rw [s2] at this
   exact this
 rw [hW0]
 have HB0 := Lib.hid hB0
 have HY0 := Lib.hid hY0
 have HM0 := Lib.hid hM0
 have HP0 := Lib.hid hP0
 clear hW0 hB0 hY0 hM0 hP0
 go_loopw [6, 14] (fun v ix wr => ∃ (i nd : Nat) (Au : Option Addr) (cu : Nat) (ul : List Cl), i ≤ n ∧ nd ≤ i ∧ v = .slice Au nd cu ∧ ix = .int .i64 (i : Int) ∧ Hid (txsC ul = dct ((txsC l).take i)) ∧ Hid (∀ x ∈ ul, x.2.2.size ≤ maxLen) ∧ Hid (wr.ownsRow W0.heap.size 23 3 (.slice Au nd cu) nd (cls ul)) ∧ Hid (MapT wr (w.heap.size + 1) i nd (atF (txsC ul))) ∧ Hid (Blk wr w.heap.size 226 #[yv f caps]) ∧ Hid (Blk wr (w.heap.size + 2) 182 #[.map (some (w.heap.size + 1))]) ∧ Hid (Below w.heap.size w wr) ∧ W0.heap.size ≤ wr.heap.size) (fun _ ix _ => n - (intOf ix).toNat)
 case atStart => exact ⟨0, 0, none, 0, [], Nat.zero_le _, Nat.zero_le _, rfl, rfl, Lib.hid rfl, Lib.hid (by simp), Lib.hid (World.ownsRow_nil _ _ _ _), HM0, HY0, HP0, HB0, Nat.le_refl _⟩
 case round =>
  clear HB0 HY0 HM0 HP0
  obtain ⟨i, nd, Au, cu, ul, hi, hnd, rfl, rfl, Hd, Hu, HU, HM, HY, HP, HB, hsz⟩ := hrel
  by_cases hlt : i < n
  ·have d1 : decide ((i : Int) < (n : Int)) = true := by simp; omega
   have hii : (i : Int) < (n : Int) := by omega
   have hi1 : i + 1 ≤ n := hlt
   obtain ⟨ad, u, x, s, rfl, hbk, hb, g0, g1, g2⟩ := cls_at ((own_reads HO.out).below HB.out) hlt
   have hss := Hok.out _ (List.mem_of_getElem? hb)
   simp only at hss
   have htx : (txsC l)[i]? = some s := by unfold txsC; rw [List.getElem?_map, hb]; rfl
   have HMa := Lib.hid (HM.out.al (.cells #[.bool u, .int .i64 x, .string s] 23))
   have HPa := HP.out.alloc (.cells #[.bool u, .int .i64 x, .string s] 23)
   have HYa := Lib.hid (HY.out.alloc (.cells #[.bool u, .int .i64 x, .string s] 23))
   have HBa := Lib.hid (bal HB.out (.cells #[.bool u, .int .i64 x, .string s] 23))
   have HUa := Lib.hid (HU.out.alloc (.cells #[.bool u, .int .i64 x, .string s] 23))
   have HXa := Lib.hid (Blk.new wr 23 #[.bool u, .int .i64 x, .string s])
   have p0 := HPa.cell 0
   have Hul := Lib.hid (show (txsC ul).length = nd by have := HU.out.1; rw [cls_length] at this; unfold txsC; simp; omega)
   rcases hp : placeL (txsC ul) s with _ | j
   ·have hno : s ∉ (txsC l).take i := fun h => (placeL_none _ s).1 hp (by rw [Hd.out]; exact (dct_mem _ s).2 h)
    have hst := dct_take_out htx hno
    rw [← Hd.out] at hst
    have Hst := Lib.hid (show txsC (ul ++ [(u, x, s)]) = dct ((txsC l).take (i + 1)) by rw [hst]; simp [txsC])
    have Hat := Lib.hid (show atF (txsC ul) s = none from by unfold atF; rw [hp]; rfl)
    have hput := atF_put (txsC ul) s hp
    rw [Hul.out] at hput
    have Hput := Lib.hid hput
    have hs1 : nd + 1 ≤ maxLen := by simp only [maxLen]; omega
    have hs2 : (nd + 1) * 32 ≤ 70368744177664 := by omega
    clear hst hput hp hno htx hbk hb
    go_wp2_with (first
     | (at_lookup; refine wpList_mapS_ok rfl _ _ _ rfl HMa.out Tryz.underlying3 Tryz.underlying9 Tryz.underlying182 (zero_int _) s hss none Hat.out rfl rfl ?_)
     | (at_mapUpdate
        refine wpList_mapS_store rfl _ _ _ _ rfl HMa.out Tryz.underlying3 Tryz.underlying9 Tryz.underlying182 (by simp only [maxLen]; omega) s hss (nd : Int) (by simp [Lit.wf, IntKind.min, IntKind.max, IntKind.signed, IntKind.bits]; omega) rfl rfl rfl ?_
        intro w5 hmap5 hg5
        rw [Hat.out] at hmap5
        have HM5 := Lib.hid (MapS.same hmap5 (f' := atF (txsC ul ++ [s])) (fun r => Hput.out r))
        have HU5 := Lib.hid (own_map HMa.out HUa.out hg5)
        have HY5 := Lib.hid (HYa.out.apartG hg5 (by omega))
        have HP5 := Lib.hid (HPa.apartG hg5 (by omega))
        have hX5 := HXa.out.apartG hg5 (by omega)
        have hB5 := HBa.out.grown hg5 (by have := HBa.out.size; omega) (by intro q hq; cases hq; omega)
        have HB5 := Lib.hid hB5
        have hz5 := hg5.size
        have x0 := hX5.cell 0
        have x1 := hX5.cell 1
        have x2 := hX5.cell 2
        clear hmap5 hg5 hX5 hB5)
     | (at_builtin
        refine wpList_append_any _ rfl (.tmp 32) (.tmp 34) 24 rfl W0.heap.size 23 j0 (.agg #[.bool false, .int .i64 0, .string ⟨#[]⟩]) 3 32 Tryz.underlying24 hj0 hk0 hj1 hk2 rfl (by decide) Au nd cu _ rfl (HU5.out.alloc _) (some ⟨_, 0, none⟩) 1 1 (cls [(u, x, s)]) rfl (by exact reads_cell _ _ _ _) (cls_one _) hs1 hs2 (by simp at hz5 ⊢; omega) ?_
        intro A8 c8 w8 r1 r2 r3 r4 r5
        rw [← cls_append] at r1
        have R1 := Lib.hid r1
        have R2 := Lib.hid r2
        have R3 := Lib.hid r3
        clear r1 r2 r3 r4 r5))
    have HM8 := Lib.hid ((HM5.out.al (.cells #[.bool u, .int .i64 x, .string s] 23)).grown R3.out ((HM5.out.al (.cells #[.bool u, .int .i64 x, .string s] 23)).apart (HU5.out.alloc _)))
    rw [if_neg (by simp), ← show txsC (ul ++ [(u, x, s)]) = txsC ul ++ [s] by simp [txsC]] at HM8
    have HY8 := Lib.hid ((HY5.out.alloc (.cells #[.bool u, .int .i64 x, .string s] 23)).apart (HU5.out.alloc _) (by decide) R3.out)
    have HP8 := Lib.hid ((HP5.out.alloc (.cells #[.bool u, .int .i64 x, .string s] 23)).apart (HU5.out.alloc _) (by decide) R3.out)
    have HB8 := Lib.hid ((bal HB5.out (.cells #[.bool u, .int .i64 x, .string s] 23)).trans (R2.out.mono (by omega)))
    have hsz8 : W0.heap.size ≤ w8.heap.size := by
     have h1 := R2.out.size
     simp at h1 hz5
     omega
    have Hu8 := Lib.hid (show ∀ y ∈ ul ++ [(u, x, s)], y.2.2.size ≤ maxLen from fun y hy => by
     rcases List.mem_append.1 hy with h | h
     ·exact Hu.out y h
     ·obtain rfl := List.mem_singleton.1 h
      exact hss)
    go_roundw
    case rel => exact ⟨i + 1, nd + 1, A8, c8, ul ++ [(u, x, s)], hi1, by omega, rfl, by go_num, Hst, Hu8, R1, HM8, HY8, HP8, HB8, hsz8⟩
    case measure => simp [intOf]; omega
   ·have hin : s ∈ (txsC l).take i := by
     have := placeL_mem.1 ⟨j, hp⟩
     rw [Hd.out] at this
     exact (dct_mem _ s).1 this
    have hst := dct_take_in htx hin
    rw [← Hd.out] at hst
    have Hst := Lib.hid hst.symm
    have Hat := Lib.hid (show atF (txsC ul) s = some (j : Int) from by unfold atF; rw [hp]; rfl)
    clear hst hp hin htx hbk hb
    go_wp2_with (first
     | (at_lookup; refine wpList_mapS_ok rfl _ _ _ rfl HMa.out Tryz.underlying3 Tryz.underlying9 Tryz.underlying182 (zero_int _) s hss (some (j : Int)) Hat.out rfl rfl ?_))
    have HM8 := Lib.hid (HMa.out.mono (Nat.le_succ i))
    have hsz8 : W0.heap.size ≤ (wr.alloc (.cells #[.bool u, .int .i64 x, .string s] 23)).heap.size := by simp; omega
    have HP8 := Lib.hid HPa
    go_roundw
    case rel => exact ⟨i + 1, nd, Au, cu, ul, hi1, by omega, rfl, by go_num, Hst, Hu, HUa, HM8, HYa, HP8, HBa, hsz8⟩
    case measure => simp [intOf]; omega
  ·obtain rfl : i = n := by omega
   have d1 : decide ((i : Int) < (i : Int)) = false := by simp
   have hd := Hd.out
   rw [List.take_of_length_le (by unfold txsC; rw [List.length_map, Hln.out]; exact Nat.le_refl _)] at hd
   have Hul : (txsC ul).length = nd := by have := HU.out.1; rw [cls_length] at this; unfold txsC; simp; omega
   have htot : putD (txsC l) = leb nd ++ (ul.flatMap (fun c => putText c.2.2) ++ l.flatMap fun c => leb (numOf (txsC ul) c.2.2)) := by
    rw [putD_eq, ← hd, Hul]
    unfold txsC
    rw [List.flatMap_map, List.flatMap_map]
   have Htot := Lib.hid htot
   have HJr := Lib.hid (Hy.out.onJ HJ.out HB.out)
   have HMr := Lib.hid (Mid.of_below (base := base) (B := B) HB.out)
   have HOr := Lib.hid (own_below HO.out HB.out)
   have hcu := own_caps HU.out
   have Hnum := Lib.hid (show ∀ c ∈ l, numOf (txsC ul) c.2.2 < 9223372036854775807 from fun c hc => by
    have h1 := numOf_lt (txsC l) c.2.2 (by unfold txsC; exact List.mem_map.2 ⟨c, hc, rfl⟩)
    rw [← hd, Hul] at h1
    omega)
   have HEnv := Lib.hid (show ∀ W W', (Blk W w.heap.size 226 #[yv f caps] ∧ Blk W (w.heap.size + 2) 182 #[.map (some (w.heap.size + 1))] ∧ MapT W (w.heap.size + 1) i nd (atF (txsC ul))) → Mid base B W W' → (Blk W' w.heap.size 226 #[yv f caps] ∧ Blk W' (w.heap.size + 2) 182 #[.map (some (w.heap.size + 1))] ∧ MapT W' (w.heap.size + 1) i nd (atF (txsC ul))) from
    fun W W' h hm => ⟨h.1.mid hm hBw, h.2.1.mid hm (by omega), h.2.2.block (hm.block _ h.2.2.lt (.inr (by omega)))⟩)
   have HD1 := Lib.hid (show DoOk J Jx base B (fun W => Blk W w.heap.size 226 #[yv f caps] ∧ Blk W (w.heap.size + 2) 182 #[.map (some (w.heap.size + 1))] ∧ MapT W (w.heap.size + 1) i nd (atF (txsC ul))) 327 #[.pointer (some ⟨w.heap.size, 0, none⟩)] ul (fun c => putText c.2.2) from
    ⟨HEnv.out, fun pre u x s W hm hj he => st1_any Hy.out w.heap.size pre u x s W hj he.1 (Hu.out _ hm), Hent1.out⟩)
   have HD2 := Lib.hid (show DoOk J Jx base B (fun W => Blk W w.heap.size 226 #[yv f caps] ∧ Blk W (w.heap.size + 2) 182 #[.map (some (w.heap.size + 1))] ∧ MapT W (w.heap.size + 1) i nd (atF (txsC ul))) 328 #[.pointer (some ⟨w.heap.size, 0, none⟩), .pointer (some ⟨w.heap.size + 2, 0, none⟩)] l (fun c => leb (numOf (txsC ul) c.2.2)) from
    ⟨HEnv.out, fun pre u x s W hm hj he => st2_any Hy.out w.heap.size (w.heap.size + 2) (w.heap.size + 1) i nd (txsC ul) pre u x s W hj he.1 he.2.1 he.2.2 (Hok.out _ hm) (Hnum.out _ hm), Hent2.out⟩)
   have HE0 := Lib.hid (And.intro HY.out (And.intro HP.out HM.out))
   have c0 := HY.out.cell 0
   clear hd htot hcu Hd Hul
   go_wp2_with fail
   with_reducible refine (ynumber_any Hy.out nd pre _ HJr.out (by omega)).mono ?_
   rintro e w1 ⟨⟨rfl, hJ1⟩ | ⟨rfl, q, hq, hx⟩, hm1⟩
   case inr =>
    have HY := Lib.hid (show Emit J Jx base B pre (putD (txsC l)) w (.returned (.bool false)) w1 by
     rw [Htot.out]
     exact Emit.stop HMr.out hq hx hm1)
    clear hq hx hm1 c0
    go_wp2
    go_ret
    exact HY.out
   have HJ1 := Lib.hid hJ1
   have HM1 := Lib.hid (HMr.out.trans hm1)
   have HU1 := Lib.hid (own_mono (own_mid HU.out hm1 (by omega)) (show B ≤ W0.heap.size by omega))
   have HO1 := Lib.hid (own_mid HOr.out hm1 (Nat.le_refl _))
   have HE1 := Lib.hid (HEnv.out _ _ HE0.out hm1)
   clear hJ1 hm1 c0 HU HOr HE0
   go_wp2_with fail
   with_reducible refine (each_any Hy.out Au nd cu ul (pre ++ leb nd) _ HD1.out HE1.out HJ1.out HU1.out).mono ?_
   rintro e w2 ⟨⟨rfl, hJ2⟩ | ⟨rfl, q, hq, hx⟩, hm2⟩
   case inr =>
    have HY := Lib.hid (show Emit J Jx base B pre (putD (txsC l)) w (.returned (.bool false)) w2 by
     rw [Htot.out]
     exact Emit.after HM1.out (Emit.stop (Mid.refl _ _ _) hq hx hm2))
    clear hq hx hm2
    go_wp2
    go_ret
    exact HY.out
   have HJ2 := Lib.hid hJ2
   have HM2 := Lib.hid (HM1.out.trans hm2)
   have HO2 := Lib.hid (own_mid HO1.out hm2 (Nat.le_refl _))
   have HE2 := Lib.hid (HEnv.out _ _ HE1.out hm2)
   clear hJ2 hm2 HU1 HO1 HE1
   go_wp2_with fail
   with_reducible refine (each_any Hy.out A i c l ((pre ++ leb nd) ++ ul.flatMap (fun c => putText c.2.2)) _ HD2.out HE2.out HJ2.out HO2.out).mono ?_
   intro e w3 hE3
   have HY := Lib.hid (show Emit J Jx base B pre (putD (txsC l)) w e w3 by
    rw [Htot.out, ← List.append_assoc]
    refine Emit.after HM2.out ?_
    rw [← List.append_assoc]
    exact hE3)
   rcases hE3.1 with ⟨rfl, -⟩ | ⟨rfl, -⟩
   ·clear hE3
    go_wp2
    go_ret
    exact HY.out
   ·clear hE3
    go_wp2
    go_ret
    exact HY.out
end
end Go.Proofs.YtnkgchmkmhdcaaaGreatDoor
namespace Go.Proofs.YtnkgchmkmhdcaaaGreatDoor
open Go.RowKit
section
variable {J Jx : List UInt8 → World → Prop} {base B : Nat} {f : FuncId} {caps : Array Value}
set_option maxRecDepth 100000 in
set_option maxHeartbeats 1000000 in
theorem co3_any (hy : YOk f caps J Jx base B) (g : Nat) (pre : List UInt8) (u : Bool) (x : Int) (s : ByteArray) (W : World) (hJ : J pre W) (hg : Blk W g 226 #[yv f caps]) (hs : s.size ≤ maxLen) :
  Calls Tryz.prog 297 (#[.agg #[.bool u, .int .i64 x, .string s]] ++ #[.pointer (some ⟨g, 0, none⟩)]) W (Emit J Jx base B pre (putText s) W) := by
 have Hy := Lib.hid hy
 have HJ := Lib.hid (hy.alJ hJ (.cells #[.bool u, .int .i64 x, .string s] 23))
 have HM := Lib.hid ((Mid.refl base B W).alloc (.cells #[.bool u, .int .i64 x, .string s] 23))
 have hg2 := hg.alloc (.cells #[.bool u, .int .i64 x, .string s] 23)
 have c0 := hg2.cell 0
 clear hy hJ hg hg2
 rw [show (#[Value.agg #[.bool u, .int .i64 x, .string s]] ++ #[Value.pointer (some ⟨g, 0, none⟩)]) = #[Value.agg #[.bool u, .int .i64 x, .string s], Value.pointer (some ⟨g, 0, none⟩)] from rfl]
 go_enter Tryz.func297, Tryz.ntmps297
 go_wp2_with fail
 with_reducible refine (ytext_any Hy.out s pre _ HJ.out hs).mono ?_
 intro e w2 hE
 have HE := Lib.hid (Emit.ahead HM.out hE)
 rcases hE.1 with ⟨rfl, -⟩ | ⟨rfl, -⟩
 ·clear hE
  go_wp2
  go_ret
  exact HE.out
 ·clear hE
  go_wp2
  go_ret
  exact HE.out
set_option maxRecDepth 100000 in
set_option maxHeartbeats 1000000 in
theorem co4_any (hy : YOk f caps J Jx base B) (g : Nat) (pre : List UInt8) (u : Bool) (x : Int) (s : ByteArray) (W : World) (hJ : J pre W) (hg : Blk W g 226 #[yv f caps]) (h1 : -9223372036854775808 ≤ x) (h2 : x ≤ 9223372036854775807) :
  Calls Tryz.prog 299 (#[.agg #[.bool u, .int .i64 x, .string s]] ++ #[.pointer (some ⟨g, 0, none⟩)]) W (Emit J Jx base B pre (leb (zig x)) W) := by
 have Hy := Lib.hid hy
 have HJ := Lib.hid (hy.alJ hJ (.cells #[.bool u, .int .i64 x, .string s] 23))
 have HM := Lib.hid ((Mid.refl base B W).alloc (.cells #[.bool u, .int .i64 x, .string s] 23))
 have hg2 := hg.alloc (.cells #[.bool u, .int .i64 x, .string s] 23)
 have c0 := hg2.cell 0
 clear hy hJ hg hg2
 rw [show (#[Value.agg #[.bool u, .int .i64 x, .string s]] ++ #[Value.pointer (some ⟨g, 0, none⟩)]) = #[Value.agg #[.bool u, .int .i64 x, .string s], Value.pointer (some ⟨g, 0, none⟩)] from rfl]
 go_enter Tryz.func299, Tryz.ntmps299
 go_wp2_with fail
 with_reducible refine (yzigzag_any Hy.out x pre _ HJ.out h1 h2).mono ?_
 intro e w2 hE
 have HE := Lib.hid (Emit.ahead HM.out hE)
 rcases hE.1 with ⟨rfl, -⟩ | ⟨rfl, -⟩
 ·clear hE
  go_wp2
  go_ret
  exact HE.out
 ·clear hE
  go_wp2
  go_ret
  exact HE.out
theorem rawsB_put (l : List Cl) : rawsB l = l.flatMap fun c => putText c.2.2 := by
 unfold rawsB putText
 congr 1
theorem someC_snoc {l : List Cl} {i : Nat} {c : Cl} (h : l[i]? = some c) : someC (l.take (i + 1)) = someC (l.take i) ++ (if c.1 then [] else [c]) := by
 unfold someC
 rw [List.take_add_one, h, List.filter_append]
 congr 1
 cases hc : c.1 <;> simp [hc]
theorem someC_mem {l : List Cl} {c : Cl} (h : c ∈ someC l) : c ∈ l := (List.mem_filter.1 h).1
set_option maxRecDepth 100000 in
set_option maxHeartbeats 8000000 in
theorem ycolumn_any (hy : YOk f caps J Jx base B) (k : Int) (nl : Bool) (A : Option Addr) (n c : Nat) (l : List Cl) (pre : List UInt8) (w : World) (hJ : J pre w) (ho : w.ownsRow B 23 3 (.slice A n c) n (cls l)) (hn : n ≤ 1099511627776) (hok : ClOk l) :
  Calls Tryz.prog 252 #[yv f caps, .agg #[.int .i64 k, .bool nl], .slice A n c] w (Emit J Jx base B pre (putB k nl l []) w) := by
 obtain ⟨j0, hj0, hk0, hj1, hk2⟩ := info_parts cell_info
 have hent3 : ∀ args w', (callFunc 297 args).run Tryz.prog w' = .ok (.enter 297 args) w' := fun args w' => callFunc_in Tryz.func297 (by kernel_rfl) (by kernel_rfl) args w'
 have hent4 : ∀ args w', (callFunc 299 args).run Tryz.prog w' = .ok (.enter 299 args) w' := fun args w' => callFunc_in Tryz.func299 (by kernel_rfl) (by kernel_rfl) args w'
 have Hent3 := Lib.hid hent3
 have Hent4 := Lib.hid hent4
 have Hy := Lib.hid hy
 have Hok3 := Lib.hid (show ∀ c ∈ l, -9223372036854775808 ≤ c.2.1 ∧ c.2.1 ≤ 9223372036854775807 ∧ c.2.2.size ≤ maxLen from hok)
 have hBw := hy.big _ _ hJ
 have Hln := Lib.hid (cls_len (own_reads ho))
 have HJ0 := Lib.hid (hy.alJ (hy.alJ hJ (.cells #[yv f caps] 226)) (.cells #[.int .i64 k, .bool nl] 43))
 have HM0 := Lib.hid (((Mid.refl base B w).alloc (.cells #[yv f caps] 226)).alloc (.cells #[.int .i64 k, .bool nl] 43))
 have HY0 := Lib.hid ((Blk.new w 226 #[yv f caps]).alloc (.cells #[.int .i64 k, .bool nl] 43))
 have HT0 := Lib.hid (Blk.new (w.alloc (.cells #[yv f caps] 226)) 43 #[.int .i64 k, .bool nl])
 rw [show (w.alloc (.cells #[yv f caps] 226)).heap.size = w.heap.size + 1 by simp] at HT0
 have HO0 := Lib.hid ((ho.alloc (.cells #[yv f caps] 226)).alloc (.cells #[.int .i64 k, .bool nl] 43))
 have hcap := own_caps ho
 have Hcap := Lib.hid hcap
 clear hent3 hent4 hy hok hJ ho hcap
 go_enter Tryz.func252, Tryz.ntmps252
 generalize hW : (w.alloc (.cells #[yv f caps] 226)).alloc (.cells #[.int .i64 k, .bool nl] 43) = W0 at *
 have HW := Lib.hid hW
 clear hW
 cases nl with
 | true =>
  have c0 := HY0.out.cell 0
  have t1 := HT0.out.cell 1
  rw [← HW.out] at c0 t1
  go_wp2_with fail
  rw [HW.out]
  with_reducible refine (ymask_any Hy.out there_ok A n c l pre _ HJ0.out Hcap.out.1 Hcap.out.2 (KeptC.own HO0.out)).mono ?_
  rintro e W1 ⟨⟨rfl, hJ1⟩ | ⟨rfl, q, hq, hx⟩, hm1⟩
  case inr =>
   have HY := Lib.hid (show Emit J Jx base B pre (putB k true l []) w (.returned (.bool false)) W1 by
    refine Emit.stop (bs := packL (l.map fun c => !c.1)) (bs2 := bareB k (someC l)) HM0.out hq hx hm1)
   clear hq hx hm1 c0 t1
   go_wp2
   go_ret
   exact HY.out
  have HJ1 := Lib.hid hJ1
  have HM1 := Lib.hid (HM0.out.trans hm1)
  have HO := Lib.hid (own_mid HO0.out hm1 (Nat.le_refl _))
  have HY1 := Lib.hid (HY0.out.mid hm1 hBw)
  have HT1 := Lib.hid (HT0.out.mid hm1 (by omega))
  clear hJ1 hm1 c0 t1 HJ0 HM0 HO0 HY0 HT0
  go_wp2
  go_loopw [8, 22] (fun v ix wr => ∃ (i nd : Nat) (Au : Option Addr) (cu : Nat), i ≤ n ∧ nd ≤ i ∧ v = .slice Au nd cu ∧ ix = .int .i64 (i : Int) ∧ Hid (wr.ownsRow W1.heap.size 23 3 (.slice Au nd cu) nd (cls (someC (l.take i)))) ∧ Hid (Below W1.heap.size W1 wr)) (fun _ ix _ => n - (intOf ix).toNat)
  case atStart => exact ⟨0, 0, none, 0, Nat.zero_le _, Nat.zero_le _, rfl, rfl, Lib.hid (World.ownsRow_nil _ _ _ _), Lib.hid (Below.refl _ _)⟩
  case round =>
   obtain ⟨i, nd, Au, cu, hi, hnd, rfl, rfl, HU, HB⟩ := hrel
   by_cases hlt : i < n
   ·have d1 : decide ((i : Int) < (n : Int)) = true := by simp; omega
    have hii : (i : Int) < (n : Int) := by omega
    have hi1 : i + 1 ≤ n := hlt
    obtain ⟨ad, u, x, s, rfl, hbk, hb, g0, g1, g2⟩ := cls_at (own_reads (own_below HO.out HB.out)) hlt
    have Hst := Lib.hid (someC_snoc hb)
    simp only at Hst
    have HBa := Lib.hid (bal HB.out (.cells #[.bool u, .int .i64 x, .string s] 23))
    have HUa := Lib.hid (HU.out.alloc (.cells #[.bool u, .int .i64 x, .string s] 23))
    have HXa := Lib.hid (Blk.new wr 23 #[.bool u, .int .i64 x, .string s])
    clear hb hbk
    go_wp2_with fail
    with_reducible refine (gthere_any u x s _).mono ?_
    rintro e w2 ⟨rfl, hb2⟩
    have HB2 := Lib.hid (bon HBa.out hb2)
    have HU2 := Lib.hid (own_below HUa.out hb2)
    have hX2 := HXa.out.on hb2
    have x0 := hX2.cell 0
    have x1 := hX2.cell 1
    have x2 := hX2.cell 2
    clear hb2 HBa HUa HXa g0 g1 g2 hX2
    cases u with
    | true =>
     rw [if_pos rfl, List.append_nil] at Hst
     have HU2 := HU2.out
     rw [← Hst.out] at HU2
     have HU2 := Lib.hid HU2
     go_wp2
     go_roundw
     case rel => exact ⟨i + 1, nd, Au, cu, hi1, by omega, rfl, by go_num, HU2, HB2⟩
     case measure => simp [intOf]; omega
    | false =>
     rw [if_neg (by simp)] at Hst
     have hs1 : nd + 1 ≤ maxLen := by simp only [maxLen]; omega
     have hs2 : (nd + 1) * 32 ≤ 70368744177664 := by omega
     go_wp2_with (at_builtin
                  refine wpList_append_any _ rfl (.tmp 29) (.tmp 31) 24 rfl W1.heap.size 23 j0 (.agg #[.bool false, .int .i64 0, .string ⟨#[]⟩]) 3 32 Tryz.underlying24 hj0 hk0 hj1 hk2 rfl (by decide) Au nd cu _ rfl (HU2.out.alloc _) (some ⟨_, 0, none⟩) 1 1 (cls [(false, x, s)]) rfl (by exact reads_cell _ _ _ _) (cls_one _) hs1 hs2 (by have := HB2.out.size; simp; omega) ?_
                  intro A8 c8 w8 r1 r2 r3 r4 r5
                  rw [← cls_append, ← Hst.out] at r1
                  have R1 := Lib.hid r1
                  have R2 := Lib.hid ((bal HB2.out _).trans r2)
                  clear r1 r2 r3 r4 r5)
     go_roundw
     case rel => exact ⟨i + 1, nd + 1, A8, c8, hi1, by omega, rfl, by go_num, R1, R2⟩
     case measure => simp [intOf]; omega
   ·obtain rfl : i = n := by omega
    have d1 : decide ((i : Int) < (i : Int)) = false := by simp
    have HU2 := HU.out
    rw [List.take_of_length_le (by rw [Hln.out]; exact Nat.le_refl _)] at HU2
    have hBW : B ≤ W1.heap.size := Hy.out.big _ _ HJ1.out
    have HUB := Lib.hid (own_mono HU2 hBW)
    have HJr := Lib.hid (Hy.out.onJ HJ1.out HB.out)
    have HMr := Lib.hid (HM1.out.trans (Mid.of_below (base := base) (B := B) HB.out))
    have hbx0 := HY1.out.on HB.out
    have hbx1 := HT1.out.on HB.out
    have HY2 := Lib.hid hbx0
    have c0 := hbx0.cell 0
    have t0 := hbx1.cell 0
    have hcu := own_caps HU2
    have Hcu := Lib.hid hcu
    have HEnv := Lib.hid (show ∀ W W', Blk W w.heap.size 226 #[yv f caps] → Mid base B W W' → Blk W' w.heap.size 226 #[yv f caps] from fun W W' h hm => h.mid hm hBw)
    clear HU HU2 hbx0 hbx1 hcu
    rcases (show k = 1 ∨ k = 4 ∨ k = 5 ∨ (k ≠ 1 ∧ k ≠ 4 ∧ k ≠ 5) by omega) with rfl | rfl | rfl | ⟨n1, n4, n5⟩
    ·have Htot := Lib.hid (show packL (l.map fun c => !c.1) ++ packL ((someC l).map fun c => c.2.1 == 1) = putB 1 true l [] by simp [putB, bareB])
     go_wp2_with fail
     with_reducible refine (ymask_any Hy.out isone_ok Au nd cu (someC l) (pre ++ packL (l.map fun c => !c.1)) _ HJr.out Hcu.out.1 Hcu.out.2 (KeptC.own HUB.out)).mono ?_
     intro e w3 hE3
     have HY := Lib.hid (show Emit J Jx base B pre (putB 1 true l []) w e w3 by rw [← Htot.out]; exact Emit.after HMr.out hE3)
     rcases hE3.1 with ⟨rfl, -⟩ | ⟨rfl, -⟩
     all_goals
      clear hE3
      go_wp2
      go_ret
      exact HY.out
    ·have Htot := Lib.hid (show packL (l.map fun c => !c.1) ++ putD (txsC (someC l)) = putB 4 true l [] by simp [putB, bareB, txsC])
     go_wp2_with fail
     with_reducible refine (ystrings_any Hy.out Au nd cu (someC l) (pre ++ packL (l.map fun c => !c.1)) _ HJr.out HUB.out (by omega) (fun x hx => (Hok3.out x (someC_mem hx)).2.2)).mono ?_
     intro e w3 hE3
     have HY := Lib.hid (show Emit J Jx base B pre (putB 4 true l []) w e w3 by rw [← Htot.out]; exact Emit.after HMr.out hE3)
     rcases hE3.1 with ⟨rfl, -⟩ | ⟨rfl, -⟩
     all_goals
      clear hE3
      go_wp2
      go_ret
      exact HY.out
    ·have Htot := Lib.hid (show packL (l.map fun c => !c.1) ++ (someC l).flatMap (fun c => putText c.2.2) = putB 5 true l [] by simp [putB, bareB, rawsB_put])
     have HD := Lib.hid (show DoOk J Jx base B (fun W => Blk W w.heap.size 226 #[yv f caps]) 297 #[.pointer (some ⟨w.heap.size, 0, none⟩)] (someC l) (fun c => putText c.2.2) from
      ⟨HEnv.out, fun pre u x s W hm hj he => co3_any Hy.out w.heap.size pre u x s W hj he (Hok3.out _ (someC_mem hm)).2.2, Hent3.out⟩)
     go_wp2_with fail
     with_reducible refine (each_any Hy.out Au nd cu (someC l) (pre ++ packL (l.map fun c => !c.1)) _ HD.out HY2.out HJr.out HUB.out).mono ?_
     intro e w3 hE3
     have HY := Lib.hid (show Emit J Jx base B pre (putB 5 true l []) w e w3 by rw [← Htot.out]; exact Emit.after HMr.out hE3)
     rcases hE3.1 with ⟨rfl, -⟩ | ⟨rfl, -⟩
     all_goals
      clear hE3
      go_wp2
      go_ret
      exact HY.out
    ·have e1 : (k == 1) = false := by simpa using n1
     have e4 : (k == 4) = false := by simpa using n4
     have e5 : (k == 5) = false := by simpa using n5
     have Htot := Lib.hid (show packL (l.map fun c => !c.1) ++ (someC l).flatMap (fun c => leb (zig c.2.1)) = putB k true l [] by simp [putB, bareB, n1, n4, n5, intsB])
     have HD := Lib.hid (show DoOk J Jx base B (fun W => Blk W w.heap.size 226 #[yv f caps]) 299 #[.pointer (some ⟨w.heap.size, 0, none⟩)] (someC l) (fun c => leb (zig c.2.1)) from
      ⟨HEnv.out, fun pre u x s W hm hj he => co4_any Hy.out w.heap.size pre u x s W hj he (Hok3.out _ (someC_mem hm)).1 (Hok3.out _ (someC_mem hm)).2.1, Hent4.out⟩)
     clear n1 n4 n5
     go_wp2_with fail
     with_reducible refine (each_any Hy.out Au nd cu (someC l) (pre ++ packL (l.map fun c => !c.1)) _ HD.out HY2.out HJr.out HUB.out).mono ?_
     intro e w3 hE3
     have HY := Lib.hid (show Emit J Jx base B pre (putB k true l []) w e w3 by rw [← Htot.out]; exact Emit.after HMr.out hE3)
     rcases hE3.1 with ⟨rfl, -⟩ | ⟨rfl, -⟩
     all_goals
      clear hE3
      go_wp2
      go_ret
      exact HY.out
 | false =>
  have HJ1 := Lib.hid (show J (pre ++ []) W0 by rw [List.append_nil]; exact HJ0.out)
  have HM1 := HM0
  have HO := HO0
  have HY1 := HY0
  have HT1 := HT0
  have t1 := HT0.out.cell 1
  rw [← HW.out] at t1
  go_wp2
  rw [HW.out]
  clear t1 HJ0 HM0 HO0 HY0 HT0 HW
  go_loopw [8, 22] (fun v ix wr => ∃ (i nd : Nat) (Au : Option Addr) (cu : Nat), i ≤ n ∧ nd ≤ i ∧ v = .slice Au nd cu ∧ ix = .int .i64 (i : Int) ∧ Hid (wr.ownsRow W0.heap.size 23 3 (.slice Au nd cu) nd (cls (someC (l.take i)))) ∧ Hid (Below W0.heap.size W0 wr)) (fun _ ix _ => n - (intOf ix).toNat)
  case atStart => exact ⟨0, 0, none, 0, Nat.zero_le _, Nat.zero_le _, rfl, rfl, Lib.hid (World.ownsRow_nil _ _ _ _), Lib.hid (Below.refl _ _)⟩
  case round =>
   obtain ⟨i, nd, Au, cu, hi, hnd, rfl, rfl, HU, HB⟩ := hrel
   by_cases hlt : i < n
   ·have d1 : decide ((i : Int) < (n : Int)) = true := by simp; omega
    have hii : (i : Int) < (n : Int) := by omega
    have hi1 : i + 1 ≤ n := hlt
    obtain ⟨ad, u, x, s, rfl, hbk, hb, g0, g1, g2⟩ := cls_at (own_reads (own_below HO.out HB.out)) hlt
    have Hst := Lib.hid (someC_snoc hb)
    simp only at Hst
    have HBa := Lib.hid (bal HB.out (.cells #[.bool u, .int .i64 x, .string s] 23))
    have HUa := Lib.hid (HU.out.alloc (.cells #[.bool u, .int .i64 x, .string s] 23))
    have HXa := Lib.hid (Blk.new wr 23 #[.bool u, .int .i64 x, .string s])
    clear hb hbk
    go_wp2_with fail
    with_reducible refine (gthere_any u x s _).mono ?_
    rintro e w2 ⟨rfl, hb2⟩
    have HB2 := Lib.hid (bon HBa.out hb2)
    have HU2 := Lib.hid (own_below HUa.out hb2)
    have hX2 := HXa.out.on hb2
    have x0 := hX2.cell 0
    have x1 := hX2.cell 1
    have x2 := hX2.cell 2
    clear hb2 HBa HUa HXa g0 g1 g2 hX2
    cases u with
    | true =>
     rw [if_pos rfl, List.append_nil] at Hst
     have HU2 := HU2.out
     rw [← Hst.out] at HU2
     have HU2 := Lib.hid HU2
     go_wp2
     go_roundw
     case rel => exact ⟨i + 1, nd, Au, cu, hi1, by omega, rfl, by go_num, HU2, HB2⟩
     case measure => simp [intOf]; omega
    | false =>
     rw [if_neg (by simp)] at Hst
     have hs1 : nd + 1 ≤ maxLen := by simp only [maxLen]; omega
     have hs2 : (nd + 1) * 32 ≤ 70368744177664 := by omega
     go_wp2_with (at_builtin
                  refine wpList_append_any _ rfl (.tmp 29) (.tmp 31) 24 rfl W0.heap.size 23 j0 (.agg #[.bool false, .int .i64 0, .string ⟨#[]⟩]) 3 32 Tryz.underlying24 hj0 hk0 hj1 hk2 rfl (by decide) Au nd cu _ rfl (HU2.out.alloc _) (some ⟨_, 0, none⟩) 1 1 (cls [(false, x, s)]) rfl (by exact reads_cell _ _ _ _) (cls_one _) hs1 hs2 (by have := HB2.out.size; simp; omega) ?_
                  intro A8 c8 w8 r1 r2 r3 r4 r5
                  rw [← cls_append, ← Hst.out] at r1
                  have R1 := Lib.hid r1
                  have R2 := Lib.hid ((bal HB2.out _).trans r2)
                  clear r1 r2 r3 r4 r5)
     go_roundw
     case rel => exact ⟨i + 1, nd + 1, A8, c8, hi1, by omega, rfl, by go_num, R1, R2⟩
     case measure => simp [intOf]; omega
   ·obtain rfl : i = n := by omega
    have d1 : decide ((i : Int) < (i : Int)) = false := by simp
    have HU2 := HU.out
    rw [List.take_of_length_le (by rw [Hln.out]; exact Nat.le_refl _)] at HU2
    have hBW : B ≤ W0.heap.size := Hy.out.big _ _ HJ1.out
    have HUB := Lib.hid (own_mono HU2 hBW)
    have HJr := Lib.hid (Hy.out.onJ HJ1.out HB.out)
    have HMr := Lib.hid (HM1.out.trans (Mid.of_below (base := base) (B := B) HB.out))
    have hbx0 := HY1.out.on HB.out
    have hbx1 := HT1.out.on HB.out
    have HY2 := Lib.hid hbx0
    have c0 := hbx0.cell 0
    have t0 := hbx1.cell 0
    have hcu := own_caps HU2
    have Hcu := Lib.hid hcu
    have HEnv := Lib.hid (show ∀ W W', Blk W w.heap.size 226 #[yv f caps] → Mid base B W W' → Blk W' w.heap.size 226 #[yv f caps] from fun W W' h hm => h.mid hm hBw)
    clear HU HU2 hbx0 hbx1 hcu
    rcases (show k = 1 ∨ k = 4 ∨ k = 5 ∨ (k ≠ 1 ∧ k ≠ 4 ∧ k ≠ 5) by omega) with rfl | rfl | rfl | ⟨n1, n4, n5⟩
    ·have Htot := Lib.hid (show ([] : List UInt8) ++ packL ((someC l).map fun c => c.2.1 == 1) = putB 1 false l [] by simp [putB, bareB])
     go_wp2_with fail
     with_reducible refine (ymask_any Hy.out isone_ok Au nd cu (someC l) (pre ++ ([] : List UInt8)) _ HJr.out Hcu.out.1 Hcu.out.2 (KeptC.own HUB.out)).mono ?_
     intro e w3 hE3
     have HY := Lib.hid (show Emit J Jx base B pre (putB 1 false l []) w e w3 by rw [← Htot.out]; exact Emit.after HMr.out hE3)
     rcases hE3.1 with ⟨rfl, -⟩ | ⟨rfl, -⟩
     all_goals
      clear hE3
      go_wp2
      go_ret
      exact HY.out
    ·have Htot := Lib.hid (show ([] : List UInt8) ++ putD (txsC (someC l)) = putB 4 false l [] by simp [putB, bareB, txsC])
     go_wp2_with fail
     with_reducible refine (ystrings_any Hy.out Au nd cu (someC l) (pre ++ ([] : List UInt8)) _ HJr.out HUB.out (by omega) (fun x hx => (Hok3.out x (someC_mem hx)).2.2)).mono ?_
     intro e w3 hE3
     have HY := Lib.hid (show Emit J Jx base B pre (putB 4 false l []) w e w3 by rw [← Htot.out]; exact Emit.after HMr.out hE3)
     rcases hE3.1 with ⟨rfl, -⟩ | ⟨rfl, -⟩
     all_goals
      clear hE3
      go_wp2
      go_ret
      exact HY.out
    ·have Htot := Lib.hid (show ([] : List UInt8) ++ (someC l).flatMap (fun c => putText c.2.2) = putB 5 false l [] by simp [putB, bareB, rawsB_put])
     have HD := Lib.hid (show DoOk J Jx base B (fun W => Blk W w.heap.size 226 #[yv f caps]) 297 #[.pointer (some ⟨w.heap.size, 0, none⟩)] (someC l) (fun c => putText c.2.2) from
      ⟨HEnv.out, fun pre u x s W hm hj he => co3_any Hy.out w.heap.size pre u x s W hj he (Hok3.out _ (someC_mem hm)).2.2, Hent3.out⟩)
     go_wp2_with fail
     with_reducible refine (each_any Hy.out Au nd cu (someC l) (pre ++ ([] : List UInt8)) _ HD.out HY2.out HJr.out HUB.out).mono ?_
     intro e w3 hE3
     have HY := Lib.hid (show Emit J Jx base B pre (putB 5 false l []) w e w3 by rw [← Htot.out]; exact Emit.after HMr.out hE3)
     rcases hE3.1 with ⟨rfl, -⟩ | ⟨rfl, -⟩
     all_goals
      clear hE3
      go_wp2
      go_ret
      exact HY.out
    ·have e1 : (k == 1) = false := by simpa using n1
     have e4 : (k == 4) = false := by simpa using n4
     have e5 : (k == 5) = false := by simpa using n5
     have Htot := Lib.hid (show ([] : List UInt8) ++ (someC l).flatMap (fun c => leb (zig c.2.1)) = putB k false l [] by simp [putB, bareB, n1, n4, n5, intsB])
     have HD := Lib.hid (show DoOk J Jx base B (fun W => Blk W w.heap.size 226 #[yv f caps]) 299 #[.pointer (some ⟨w.heap.size, 0, none⟩)] (someC l) (fun c => leb (zig c.2.1)) from
      ⟨HEnv.out, fun pre u x s W hm hj he => co4_any Hy.out w.heap.size pre u x s W hj he (Hok3.out _ (someC_mem hm)).1 (Hok3.out _ (someC_mem hm)).2.1, Hent4.out⟩)
     clear n1 n4 n5
     go_wp2_with fail
     with_reducible refine (each_any Hy.out Au nd cu (someC l) (pre ++ ([] : List UInt8)) _ HD.out HY2.out HJr.out HUB.out).mono ?_
     intro e w3 hE3
     have HY := Lib.hid (show Emit J Jx base B pre (putB k false l []) w e w3 by rw [← Htot.out]; exact Emit.after HMr.out hE3)
     rcases hE3.1 with ⟨rfl, -⟩ | ⟨rfl, -⟩
     all_goals
      clear hE3
      go_wp2
      go_ret
      exact HY.out
end
end Go.Proofs.YtnkgchmkmhdcaaaGreatDoor
