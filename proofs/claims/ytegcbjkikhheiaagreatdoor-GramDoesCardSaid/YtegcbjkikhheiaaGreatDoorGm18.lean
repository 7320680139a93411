/- Part 18 of the walks, merged: each text under its own heading. Conditions: none of its own; each lemma states what it asks. -/
import Derived.Test.YtegcbjkikhheiaaGreatDoorGm17
import Derived.OwnWalkIn
import Derived.TacticsInMore
import Derived.LoopNIn
import Derived.LoopIn
import Derived.Shelf.RegionOpen
import Derived.Laws.ResultCell
set_option linter.unusedVariables false
set_option linter.unusedSimpArgs false
namespace Go.Proofs.YtegcbjkikhheiaaGreatDoor
open Go.RowKit Go.Shelf
attribute [local go_sem] Oper.semAt_some
theorem wroom_ (k : Nat) : Fence.wide.room k := fun d h => by simp [Fence.wide] at h
theorem RoundIn.anyW {m m' : Nat} {P : Program} {l : Nat} {f : FuncId} {tmps : Array Value} {assign body : Code} {w : World} {R : Ending → World → Prop}
    (h : RoundIn Fence.wide m P l f tmps assign body w R) : RoundIn Fence.wide m' P l f tmps assign body w R := ⟨h.1, fun c cs _ => h.2 c cs (wroom_ _)⟩
theorem YieldAt.anyW {m : Nat} (m' : Nat) {P : Program} {l : Nat} {args : Array Value} {W : World} {R : Ending → World → Prop} (h : YieldAt Fence.wide m P l args W R) : YieldAt Fence.wide m' P l args W R := by
  obtain ⟨fn, tmps, assign, body, hy, hR⟩ := h
  exact ⟨fn, tmps, assign, body, hy, RoundIn.anyW hR⟩
structure CntJ (J : List UInt8 → World → Prop) (base Z l : Nat) (pre : List UInt8) (W : World) : Prop where
  user : J pre W
  sum : Blk W (Z + 1) 91 #[.int .u32 ((crcS pre : Nat) : Int)]
  yld : Blk W Z 129 #[.func (.yield l) #[] #[]]
  tab : Tab2 base W
set_option maxRecDepth 100000 in
set_option maxHeartbeats 2000000 in
theorem counted_any {J Jx : List UInt8 → World → Prop} {base Z l m : Nat} (hbz : base ≤ Z) (hJs : ∀ s A A', J s A → Below Z A A' → J s A')
    (hY : ∀ pre (c : UInt8) W1, J pre W1 → YieldAt Fence.wide m Tryz.prog l #[.int .u8 (c.toNat : Int)] W1 fun e W' =>
      (e = .returned (.bool true) ∧ J (pre ++ [c]) W' ∧ Mid base Z W1 W') ∨ (e = .returned (.bool false) ∧ Jx (pre ++ [c]) W' ∧ Mid base Z W1 W'))
    (pre : List UInt8) (c : UInt8) (W : World) (h : CntJ J base Z l pre W) :
    Calls Tryz.prog 93 (#[.int .u8 (c.toNat : Int)] ++ #[.pointer (some ⟨Z + 1, 0, none⟩), .pointer (some ⟨Z, 0, none⟩)]) W (Emit (CntJ J base Z l) Jx base (Z + 2) pre [c] W) := by
  rw [show (#[Value.int .u8 (c.toNat : Int)] ++ #[Value.pointer (some ⟨Z + 1, 0, none⟩), Value.pointer (some ⟨Z, 0, none⟩)]) = #[Value.int .u8 (c.toNat : Int), Value.pointer (some ⟨Z + 1, 0, none⟩), Value.pointer (some ⟨Z, 0, none⟩)] from rfl]
  obtain ⟨hu, hs, hyl, ht⟩ := h
  have hlt := crcU_lt 0 pre
  have HU := Lib.hid hu
  have HS0 := Lib.hid hs
  have HYl0 := Lib.hid hyl
  have HT0 := Lib.hid ht
  have HS := Lib.hid (hs.alloc (.cells #[.int .u8 (c.toNat : Int)] 5))
  have HYl := Lib.hid (hyl.alloc (.cells #[.int .u8 (c.toNat : Int)] 5))
  have HT := Lib.hid (ht.keep ((Below.refl _ W).alloc (show base ≤ W.heap.size by have := hs.lt; omega) (.cells #[.int .u8 (c.toNat : Int)] 5)))
  have hsz := hs.lt
  have s0 := hs.cell 0
  have s1 := HS.out.cell 0
  have f1 := HS.out.frozen 0
  have Hsn := Lib.hid (crcS_snoc pre c)
  have HYY := Lib.hid hY
  have HJs := Lib.hid hJs
  have hup := Lib.hid (update_any (crcS pre) hlt (some ⟨W.heap.size, 0, none⟩) 1 1 [c] _ (reads_lit W #[.int .u8 (c.toNat : Int)] 5 (u8s [c]) W.heap.size 1 rfl rfl rfl) (by decide) HT.out.ctab)
  clear hu hs hyl ht hY hJs hlt
  refine (callsIn_wide (n := 5)).1 ?_
  refine callsIn_of_wp Tryz.func93 rfl trivial ?_ rfl
  simp only [Tryz.ntmps93, List.size_toArray, List.length_cons, List.length_nil, Nat.reduceAdd, Nat.reduceSub, Array.replicate_succ, Array.replicate_zero, List.push_toArray, List.append_toArray, List.nil_append, List.cons_append]
  gi_wp2_with fail
  refine ⟨trivial, (callsIn_wide.2 hup.out).mono ?_⟩
  rintro e w1 ⟨rfl, rfl⟩
  rw [← Hsn.out]
  obtain ⟨W2, hW2⟩ : ∃ W2, (W.setCell ⟨Z + 1, 0, none⟩ (.int .u32 ((crcS (pre ++ [c]) : Nat) : Int))).alloc (.cells #[.int .u8 (c.toNat : Int)] 5) = W2 := ⟨_, rfl⟩
  have hS2 := (HS0.out.set_ 0 (.int .u32 ((crcS (pre ++ [c]) : Nat) : Int))).alloc (.cells #[.int .u8 (c.toNat : Int)] 5)
  simp only [List.setIfInBounds_toArray, List.set_cons_zero] at hS2
  have hY2 := (HYl0.out.far (p := ⟨Z + 1, 0, none⟩) (by show Z ≠ Z + 1; omega) (.int .u32 ((crcS (pre ++ [c]) : Nat) : Int))).alloc (.cells #[.int .u8 (c.toNat : Int)] 5)
  have hM2 : Mid base (Z + 2) W ((W.setCell ⟨Z + 1, 0, none⟩ (.int .u32 ((crcS (pre ++ [c]) : Nat) : Int))).alloc (.cells #[.int .u8 (c.toNat : Int)] 5)) :=
    ((Mid.refl base (Z + 2) W).setCell (p := ⟨Z + 1, 0, none⟩) (by show base ≤ Z + 1; omega) (.inl (by show Z + 1 < Z + 2; omega)) _).alloc _
  have hzz : Z ≤ (W.setCell ⟨Z + 1, 0, none⟩ (.int .u32 ((crcS (pre ++ [c]) : Nat) : Int))).heap.size := by simp [World.setCell]; omega
  have hJ2 : J pre ((W.setCell ⟨Z + 1, 0, none⟩ (.int .u32 ((crcS (pre ++ [c]) : Nat) : Int))).alloc (.cells #[.int .u8 (c.toNat : Int)] 5)) :=
    HJs.out _ _ _ HU.out (((Below.refl Z W).setCell (p := ⟨Z + 1, 0, none⟩) (by show Z ≤ Z + 1; omega) _).alloc hzz _)
  have hT2 : Tab2 base ((W.setCell ⟨Z + 1, 0, none⟩ (.int .u32 ((crcS (pre ++ [c]) : Nat) : Int))).alloc (.cells #[.int .u8 (c.toNat : Int)] 5)) :=
    HT0.out.keep (((Below.refl base W).setCell (p := ⟨Z + 1, 0, none⟩) (by show base ≤ Z + 1; omega) _).alloc (Nat.le_trans hbz hzz) _)
  rw [hW2] at hS2 hY2 hM2 hJ2 hT2
  clear hzz
  have HS2 := Lib.hid hS2
  have HM2 := Lib.hid hM2
  have HT2 := Lib.hid hT2
  have HY2 := Lib.hid hY2
  have y0 := hY2.cell 0
  rw [← hW2] at y0
  have HW2 := Lib.hid hW2
  obtain ⟨fn, tmps, assign, body, hy, hR⟩ := YieldAt.anyW 4 (HYY.out pre c W2 hJ2)
  rw [← hW2] at hy
  clear hS2 hY2 hM2 hJ2 hT2 hup hW2 s0
  gi_wp2_with fail
  rw [HW2.out]
  refine hR.mono ?_
  have hsz2 := HS2.out.lt
  rintro e W3 (⟨rfl, hJ3, hm3⟩ | ⟨rfl, hx3, hm3⟩)
  · have HE := Lib.hid (show Emit (CntJ J base Z l) Jx base (Z + 2) pre [c] W (.returned (.bool true)) W3 from
      Emit.yes ⟨hJ3, HS2.out.mid hm3 (by omega), HY2.out.mid hm3 (Nat.le_refl _), HT2.out.keep (hm3.below (by omega))⟩ (HM2.out.trans (hm3.mono (Nat.le_refl _) (by omega))))
    clear hJ3 hm3 hy y0 hR
    gi_wp2
    go_ret
    exact HE.out
  · have HE := Lib.hid (show Emit (CntJ J base Z l) Jx base (Z + 2) pre [c] W (.returned (.bool false)) W3 from
      Emit.no (List.prefix_refl _) hx3 (HM2.out.trans (hm3.mono (Nat.le_refl _) (by omega))))
    clear hx3 hm3 hy y0 hR
    gi_wp2
    go_ret
    exact HE.out
theorem Blk.belowL {w w' : World} {B g : Nat} {t : TypeId} {cs : Array Value} (h : Blk w g t cs) (hb : Below B w w') (hg : g < B) : Blk w' g t cs := (hb.block g hg).trans h
theorem wrap8_nat (x : Nat) : IntKind.u8.wrap (x : Int) = ((UInt8.ofNat x).toNat : Int) := by
  rw [UInt8.toNat_ofNat']
  simp [IntKind.wrap, IntKind.signed, IntKind.bits]
theorem bool_of {e : Ending} {P Q : Prop} (h : (e = .returned (.bool true) ∧ P) ∨ (e = .returned (.bool false) ∧ Q)) : ∃ q : Bool, e = .returned (.bool q) ∧ ((q = true ∧ P) ∨ (q = false ∧ Q)) := by
  rcases h with ⟨h, p⟩ | ⟨h, p⟩
  · exact ⟨true, h, .inl ⟨rfl, p⟩⟩
  · exact ⟨false, h, .inr ⟨rfl, p⟩⟩
set_option maxRecDepth 100000 in
set_option maxHeartbeats 4000000 in
theorem bytes1_seq (N base gc gb : Nat) (A : Option Addr) (n c : Nat) (cs : List Co) (v s : Int) (I : Option Addr) (m d : Nat) (li : List It) (w : World) (hbw : base ≤ w.heap.size) (hgc : Blk w gc 22 #[.slice A n c]) (hgb : Blk w gb 25 #[.int .i64 v, .int .i64 s, .slice I m d])
    (hcols : Reads w base 7 A n (cos cs)) (hitems : ItemsAt w base I m li) (hf : Fits cs (v, s, li)) (hok : ItOk li) (hs : s ≤ 9223372036854775807) (hT : Tab2 base w) :
    SeqB N Tryz.prog 92 #[.pointer (some ⟨gc, 0, none⟩), .pointer (some ⟨gb, 0, none⟩)] (fun x : UInt8 => #[.int .u8 (x.toNat : Int)]) base (fun xs => xs = encA cs (v, s, li)) (fun pre => pre <+: encA cs (v, s, li)) w := by
  intro l J Jx W hW hJs hXs hY h0
  have hent : ∀ args w', (callFunc 93 args).run Tryz.prog w' = .ok (.enter 93 args) w' := fun args w' => callFunc_in Tryz.func93 (by kernel_rfl) (by kernel_rfl) args w'
  obtain ⟨Z, hZ⟩ : ∃ Z, Z = W.heap.size := ⟨_, rfl⟩
  rw [← hZ] at hJs hXs hY
  have hbz : base ≤ Z := by have := hW.size; omega
  have HYok := Lib.hid (show YOk 93 #[.pointer (some ⟨Z + 1, 0, none⟩), .pointer (some ⟨Z, 0, none⟩)] (CntJ J base Z l) Jx base (Z + 2) from
    ⟨by omega, fun s A A' h hb => ⟨hJs s A A' h.user (hb.mono (by omega)), h.sum.belowL hb (by omega), h.yld.belowL hb (by omega), h.tab.keep (hb.mono (by omega))⟩, fun s A A' h hb => hXs s A A' h (hb.mono (by omega)), fun s A h => h.sum.lt,
     fun pre c W1 h => counted_any hbz hJs hY pre c W1 h, hent⟩)
  have HYY := Lib.hid hY
  have HJs := Lib.hid hJs
  have hW0 : W.heap.size = Z := hZ.symm
  have HJ0 := Lib.hid (show CntJ J base Z l [] ((W.alloc (.cells #[.func (.yield l) #[] #[]] 129)).alloc (.cells #[.int .u32 0] 91)) from
    ⟨hJs _ _ _ h0 (((Below.refl Z W).alloc (by omega) _).alloc (by simp; omega) _),
     by have := Blk.new (W.alloc (.cells #[.func (.yield l) #[] #[]] 129)) 91 #[.int .u32 0]; rw [show (W.alloc (.cells #[.func (.yield l) #[] #[]] 129)).heap.size = Z + 1 by simp [hW0]] at this; exact this,
     by have := (Blk.new W 129 #[.func (.yield l) #[] #[]]).alloc (.cells #[.int .u32 0] 91); rw [hW0] at this; exact this,
     (hT.keep (hW.mono hbw)).keep (((Below.refl base W).alloc (by omega) _).alloc (by simp; omega) _)⟩)
  have HBW := Lib.hid (bal (bal hW (.cells #[.func (.yield l) #[] #[]] 129)) (.cells #[.int .u32 0] 91))
  have HMW := Lib.hid (((Mid.refl base (Z + 2) W).alloc (.cells #[.func (.yield l) #[] #[]] 129)).alloc (.cells #[.int .u32 0] 91))
  have hc0 := (hgc.on HBW.out).cell 0
  have hb0 := (hgb.on HBW.out).cell 0
  have hb1 := (hgb.on HBW.out).cell 1
  have hb2 := (hgb.on HBW.out).cell 2
  have HC := Lib.hid (hcols.below (HBW.out.mono hbw))
  have HI := Lib.hid (hitems.below (HBW.out.mono hbw))
  have Hf := Lib.hid hf
  have Hok := Lib.hid hok
  have Hs := Lib.hid hs
  clear hgc hgb hcols hitems hf hok hs hT hY hJs hXs hent h0 hZ
  rw [show (#[Value.func (.yield l) #[] #[]] ++ #[Value.pointer (some ⟨gc, 0, none⟩), Value.pointer (some ⟨gb, 0, none⟩)]) = #[Value.func (.yield l) #[] #[], Value.pointer (some ⟨gc, 0, none⟩), Value.pointer (some ⟨gb, 0, none⟩)] from rfl]
  refine callsIn_of_wp Tryz.func92 rfl trivial ?_ rfl
  simp only [Tryz.ntmps92, List.size_toArray, List.length_cons, List.length_nil, Nat.reduceAdd, Nat.reduceSub, Array.replicate_succ, Array.replicate_zero, List.push_toArray, List.append_toArray, List.nil_append, List.cons_append]
  gi_wp2_with fail
  refine ⟨trivial, fun h => by simp [Fence.wide] at h, (callsIn_wide.2 (yahead_any HYok.out A n c cs v s I m d li [] _ HJ0.out HC.out HI.out Hf.out Hok.out Hs.out)).mono ?_⟩
  obtain ⟨T, hT⟩ : ∃ T, bodyB cs (v, s, li) = T := ⟨_, rfl⟩
  have HT := Lib.hid (show encA cs (v, s, li) = T ++ sumB (crcS T) by rw [← hT]; rfl)
  rw [hT]
  clear hT hc0 hb0 hb1 hb2
  rintro e w1 ⟨⟨rfl, hJ1⟩ | ⟨rfl, q, hq, hx⟩, hm1⟩
  case inr =>
    have HX := Lib.hid (show q <+: encA cs (v, s, li) ∧ Jx q w1 by
      refine ⟨by rw [HT.out]; exact hq.trans (List.prefix_append _ _), ?_⟩
      rw [List.nil_append] at hx
      exact hx)
    clear hq hx hm1
    gi_wp2
    refine bodyPost_ret (results_none rfl _ _ _) rfl ?_
    exact ⟨⟨_, rfl⟩, .inr ⟨q, HX.out.1, HX.out.2⟩⟩
  rw [List.nil_append] at hJ1
  have hcl := crcU_lt 0 T
  obtain ⟨sm, hsm⟩ : ∃ sm, crcS T = sm := ⟨_, rfl⟩
  have HU1 := Lib.hid hJ1.user
  have HS1 := Lib.hid hJ1.sum
  have HY1 := Lib.hid hJ1.yld
  rw [hsm] at HS1 HT
  have hcl2 : sm < 4294967296 := by rw [← hsm]; exact hcl
  clear hJ1 hm1 hcl hsm HJ0
  have hmx : Tryz.prog.follows .mixedOrders = true := by kernel_rfl
  gi_wp2
  gi_loopw [13] (fun ix wr => ∃ i : Nat, i ≤ 4 ∧ ix = .int .i64 (i : Int) ∧ Hid (J (T ++ (sumB sm).take i) wr) ∧ Hid (Blk wr (Z + 1) 91 #[.int .u32 (sm : Int)]) ∧ Hid (Blk wr Z 129 #[.func (.yield l) #[] #[]])) (fun ix _ => 4 - (intOf ix).toNat)
  case atStart => exact ⟨0, by decide, rfl, Lib.hid (by simpa using HU1.out), HS1, HY1⟩
  case round =>
    clear HU1 HS1 HY1
    obtain ⟨i, hi, rfl, HU1, HS1, HY1⟩ := hrel
    by_cases hlt : i < 4
    · have y0 := HY1.out.cell 0
      have s0 := HS1.out.cell 0
      have hw0 : IntKind.i64.wrap 0 = 0 := by kernel_rfl
      have hw1 : IntKind.i64.wrap 8 = 8 := by kernel_rfl
      have hw2 : IntKind.i64.wrap 16 = 16 := by kernel_rfl
      have hw3 : IntKind.i64.wrap 24 = 24 := by kernel_rfl
      rcases (show i = 0 ∨ i = 1 ∨ i = 2 ∨ i = 3 by omega) with rfl | rfl | rfl | rfl
      · obtain ⟨fn, tmps, assign, body, hy, hR⟩ := HYY.out (T ++ (sumB sm).take 0) (UInt8.ofNat sm) wr.drew (HJs.out _ _ _ HU1.out ((Below.refl Z wr).drew))
        rw [← wrap8_nat] at hy
        gi_wp2
        gi_region_with_o (refine ⟨fun h => (by simp [Fence.wide] at h), (RoundIn.anyW hR).mono ?_⟩; clear hR; intro e W3 h3; obtain ⟨q, rfl, hq3⟩ := bool_of h3; clear h3)
        all_goals
          rcases hq3 with ⟨rfl, hJ3, hm3⟩ | ⟨rfl, hx3, hm3⟩
          · have HU3 := Lib.hid (show J (T ++ (sumB sm).take 1) W3 from by have := hJ3; rw [List.append_assoc] at this; exact this)
            have HS3 := Lib.hid (HS1.out.drew.mid hm3 (by omega))
            have HY3 := Lib.hid (HY1.out.drew.mid hm3 (Nat.le_refl _))
            clear hJ3 hm3 hy y0 s0
            gi_wp2
            go_roundw
            case rel => exact ⟨1, by decide, rfl, HU3, HS3, HY3⟩
            case measure => simp [intOf]
          · have HX := Lib.hid (show (T ++ (sumB sm).take 1) <+: encA cs (v, s, li) ∧ Jx (T ++ (sumB sm).take 1) W3 from ⟨by rw [HT.out]; exact prefix_app (List.take_prefix _ _), by have := hx3; rw [List.append_assoc] at this; exact this⟩)
            clear hx3 hm3 hy y0 s0
            gi_wp2
            refine bodyPost_ret (results_none rfl _ _ _) rfl ?_
            exact ⟨⟨_, rfl⟩, .inr ⟨_, HX.out.1, HX.out.2⟩⟩
      · obtain ⟨fn, tmps, assign, body, hy, hR⟩ := HYY.out (T ++ (sumB sm).take 1) (UInt8.ofNat (sm / 256)) wr.drew (HJs.out _ _ _ HU1.out ((Below.refl Z wr).drew))
        rw [← wrap8_nat] at hy
        rw [show (((sm / 256 : Nat) : Int)) = ((sm : Int) / 256) from by omega] at hy
        gi_wp2
        gi_region_with_o (refine ⟨fun h => (by simp [Fence.wide] at h), (RoundIn.anyW hR).mono ?_⟩; clear hR; intro e W3 h3; obtain ⟨q, rfl, hq3⟩ := bool_of h3; clear h3)
        all_goals
          rcases hq3 with ⟨rfl, hJ3, hm3⟩ | ⟨rfl, hx3, hm3⟩
          · have HU3 := Lib.hid (show J (T ++ (sumB sm).take 2) W3 from by have := hJ3; rw [List.append_assoc] at this; exact this)
            have HS3 := Lib.hid (HS1.out.drew.mid hm3 (by omega))
            have HY3 := Lib.hid (HY1.out.drew.mid hm3 (Nat.le_refl _))
            clear hJ3 hm3 hy y0 s0
            gi_wp2
            go_roundw
            case rel => exact ⟨2, by decide, rfl, HU3, HS3, HY3⟩
            case measure => simp [intOf]
          · have HX := Lib.hid (show (T ++ (sumB sm).take 2) <+: encA cs (v, s, li) ∧ Jx (T ++ (sumB sm).take 2) W3 from ⟨by rw [HT.out]; exact prefix_app (List.take_prefix _ _), by have := hx3; rw [List.append_assoc] at this; exact this⟩)
            clear hx3 hm3 hy y0 s0
            gi_wp2
            refine bodyPost_ret (results_none rfl _ _ _) rfl ?_
            exact ⟨⟨_, rfl⟩, .inr ⟨_, HX.out.1, HX.out.2⟩⟩
      · obtain ⟨fn, tmps, assign, body, hy, hR⟩ := HYY.out (T ++ (sumB sm).take 2) (UInt8.ofNat (sm / 65536)) wr.drew (HJs.out _ _ _ HU1.out ((Below.refl Z wr).drew))
        rw [← wrap8_nat] at hy
        rw [show (((sm / 65536 : Nat) : Int)) = ((sm : Int) / 65536) from by omega] at hy
        gi_wp2
        gi_region_with_o (refine ⟨fun h => (by simp [Fence.wide] at h), (RoundIn.anyW hR).mono ?_⟩; clear hR; intro e W3 h3; obtain ⟨q, rfl, hq3⟩ := bool_of h3; clear h3)
        all_goals
          rcases hq3 with ⟨rfl, hJ3, hm3⟩ | ⟨rfl, hx3, hm3⟩
          · have HU3 := Lib.hid (show J (T ++ (sumB sm).take 3) W3 from by have := hJ3; rw [List.append_assoc] at this; exact this)
            have HS3 := Lib.hid (HS1.out.drew.mid hm3 (by omega))
            have HY3 := Lib.hid (HY1.out.drew.mid hm3 (Nat.le_refl _))
            clear hJ3 hm3 hy y0 s0
            gi_wp2
            go_roundw
            case rel => exact ⟨3, by decide, rfl, HU3, HS3, HY3⟩
            case measure => simp [intOf]
          · have HX := Lib.hid (show (T ++ (sumB sm).take 3) <+: encA cs (v, s, li) ∧ Jx (T ++ (sumB sm).take 3) W3 from ⟨by rw [HT.out]; exact prefix_app (List.take_prefix _ _), by have := hx3; rw [List.append_assoc] at this; exact this⟩)
            clear hx3 hm3 hy y0 s0
            gi_wp2
            refine bodyPost_ret (results_none rfl _ _ _) rfl ?_
            exact ⟨⟨_, rfl⟩, .inr ⟨_, HX.out.1, HX.out.2⟩⟩
      · obtain ⟨fn, tmps, assign, body, hy, hR⟩ := HYY.out (T ++ (sumB sm).take 3) (UInt8.ofNat (sm / 16777216)) wr.drew (HJs.out _ _ _ HU1.out ((Below.refl Z wr).drew))
        rw [← wrap8_nat] at hy
        rw [show (((sm / 16777216 : Nat) : Int)) = ((sm : Int) / 16777216) from by omega] at hy
        gi_wp2
        gi_region_with_o (refine ⟨fun h => (by simp [Fence.wide] at h), (RoundIn.anyW hR).mono ?_⟩; clear hR; intro e W3 h3; obtain ⟨q, rfl, hq3⟩ := bool_of h3; clear h3)
        all_goals
          rcases hq3 with ⟨rfl, hJ3, hm3⟩ | ⟨rfl, hx3, hm3⟩
          · have HU3 := Lib.hid (show J (T ++ (sumB sm).take 4) W3 from by have := hJ3; rw [List.append_assoc] at this; exact this)
            have HS3 := Lib.hid (HS1.out.drew.mid hm3 (by omega))
            have HY3 := Lib.hid (HY1.out.drew.mid hm3 (Nat.le_refl _))
            clear hJ3 hm3 hy y0 s0
            gi_wp2
            go_roundw
            case rel => exact ⟨4, by decide, rfl, HU3, HS3, HY3⟩
            case measure => simp [intOf]
          · have HX := Lib.hid (show (T ++ (sumB sm).take 4) <+: encA cs (v, s, li) ∧ Jx (T ++ (sumB sm).take 4) W3 from ⟨by rw [HT.out]; exact prefix_app (List.take_prefix _ _), by have := hx3; rw [List.append_assoc] at this; exact this⟩)
            clear hx3 hm3 hy y0 s0
            gi_wp2
            refine bodyPost_ret (results_none rfl _ _ _) rfl ?_
            exact ⟨⟨_, rfl⟩, .inr ⟨_, HX.out.1, HX.out.2⟩⟩
    · obtain rfl : i = 4 := by omega
      have HX := Lib.hid (show J (encA cs (v, s, li)) wr by rw [HT.out]; exact HU1.out)
      gi_wp2
      go_end0
      exact ⟨⟨_, rfl⟩, .inl ⟨_, rfl, HX.out⟩⟩
end Go.Proofs.YtegcbjkikhheiaaGreatDoor
namespace Go.Proofs.YtegcbjkikhheiaaGreatDoor
open Go.RowKit
set_option maxRecDepth 100000 in
theorem chk1_any (g0 g1 : Nat) (A : Option Addr) (n c : Nat) (cs : List Co) (v s : Int) (I : Option Addr) (m d : Nat) (l : List It) (w : World)
    (h0 : w.cell? ⟨g0, 0, none⟩ = some (.slice A n c)) (h1 : Blk w g1 25 #[.int .i64 v, .int .i64 s, .slice I m d])
    (hr : Reads w w.heap.size 7 A n (cos cs)) (hn : n ≤ maxLen) (hi : ItemsAt w w.heap.size I m l) (hm : m ≤ maxLen) (hT : Tabs w) :
    Calls Tryz.prog 57 #[.pointer (some ⟨g0, 0, none⟩), .pointer (some ⟨g1, 0, none⟩)] w fun e w' => e = endN (batE cs (v, s, l)) ∧ Below w.heap.size w w' := by
  have c10 := h1.cell 0
  have c11 := h1.cell 1
  have c12 := h1.cell 2
  have HK := Lib.hid (bcheck_any A n c cs v s I m d l w hr hn hi hm hT)
  clear hr hi hT h1
  go_enter Tryz.func57, Tryz.ntmps57
  go_wp2_with fail
  with_reducible refine HK.out.mono ?_
  rintro e w1 ⟨rfl, hb1⟩
  have HB := Lib.hid hb1
  clear hb1 h0 c10 c11 c12
  by_cases hE : batE cs (v, s, l) = 0
  · rw [hE, endN_zero]
    have HE := Lib.hid hE
    clear hE
    go_wp2
    go_end0
    exact ⟨by rw [HE.out]; rfl, HB.out⟩
  · have HE := Lib.hid hE
    rw [endN_not hE]
    clear hE
    go_wp2
    exact ⟨rfl, (endN_not HE.out).symm, HB.out⟩
set_option maxRecDepth 100000 in
set_option maxHeartbeats 1000000 in
theorem bCheck_any (A : Option Addr) (n c : Nat) (cs : List Co) (v s : Int) (I : Option Addr) (m d : Nat) (l : List It) (w : World) (hr : Reads w w.heap.size 7 A n (cos cs)) (hn : n ≤ maxLen) (hi : ItemsAt w w.heap.size I m l) (hm : m ≤ maxLen) (hT : Tabs w) :
    Calls Tryz.prog 19 #[.slice A n c, .agg #[.int .i64 v, .int .i64 s, .slice I m d]] w fun e w' => e = .returned (.int .i64 (batE cs (v, s, l))) ∧ Below w.heap.size w w' := by
  have hin := callFunc_in Tryz.func57 (by kernel_rfl) (by kernel_rfl)
  obtain ⟨W2, hW2⟩ : ∃ W2, W2 = (w.alloc (.cells #[.slice A n c] 22)).alloc (.cells #[.int .i64 v, .int .i64 s, .slice I m d] 25) := ⟨_, rfl⟩
  obtain ⟨W3, hW3⟩ : ∃ W3, W3 = W2.alloc (.cells #[.int .i64 0] 30) := ⟨_, rfl⟩
  have hb2 : Below w.heap.size w W2 := by rw [hW2]; exact bal (bal (Below.refl _ _) _) _
  have hb3 : Below W2.heap.size W2 W3 := by rw [hW3]; exact bal (Below.refl _ _) _
  have hs2 : W2.heap.size = w.heap.size + 2 := by rw [hW2]; simp
  have B1 : Blk W3 (w.heap.size + 1) 25 #[.int .i64 v, .int .i64 s, .slice I m d] := by
    have := (Blk.new (w.alloc (.cells #[.slice A n c] 22)) 25 #[.int .i64 v, .int .i64 s, .slice I m d]).alloc (.cells #[.int .i64 0] 30)
    rw [hW3, hW2]
    simpa using this
  have B0 : Blk W3 w.heap.size 22 #[.slice A n c] := by
    have := ((Blk.new w 22 #[.slice A n c]).alloc (.cells #[.int .i64 v, .int .i64 s, .slice I m d] 25)).alloc (.cells #[.int .i64 0] 30)
    rw [hW3, hW2]
    exact this
  have BE : Blk W3 W2.heap.size 30 #[.int .i64 0] := by rw [hW3]; exact Blk.new _ _ _
  have HK := Lib.hid (caught_any 57 #[.pointer (some ⟨w.heap.size, 0, none⟩), .pointer (some ⟨w.heap.size + 1, 0, none⟩)] W2 (fun E w' => E = batE cs (v, s, l) ∧ Below w.heap.size w w') hin (by
    rw [← hW3]
    refine (chk1_any w.heap.size (w.heap.size + 1) A n c cs v s I m d l W3 (B0.cell 0) B1 ((hr.on hb2).on hb3) hn ((hi.on hb2).on hb3) hm ((hT.on hb2).on hb3)).mono ?_
    rintro e w' ⟨rfl, hb⟩
    exact ⟨_, rfl, ⟨rfl, hb2.trans ((hb3.trans (hb.mono hb3.size)).mono (by omega))⟩, BE.on hb⟩))
  clear hr hi hT hb2 hb3 B1 B0 BE
  go_enter Tryz.func19, Tryz.ntmps19
  go_wp2_with fail
  rw [← hW2]
  with_reducible refine HK.out.mono ?_
  rintro e w1 ⟨E, w2, rfl, ⟨rfl, hb⟩, hB, rfl⟩
  have HB := Lib.hid (hb.setCell (p := ⟨W2.heap.size, 0, none⟩) (by show w.heap.size ≤ W2.heap.size; omega) (.int .i64 (batE cs (v, s, l))))
  clear hb hB hs2 hW3 hW2
  go_wp2
  go_ret
  exact ⟨rfl, HB.out⟩
def EncP (E : Int) (bs : List UInt8) (w : World) (e : Ending) (w' : World) : Prop :=
  Below w.heap.size w w' ∧ ((E = 0 ∧ ∃ A c, e = .returned (.tuple #[.slice A bs.length c, .int .i64 0]) ∧ w'.ownsRow w.heap.size 5 1 (.slice A bs.length c) bs.length (u8s bs)) ∨ (E ≠ 0 ∧ e = .returned (.tuple #[.slice none 0 0, .int .i64 E])))
set_option maxRecDepth 100000 in
set_option maxHeartbeats 1000000 in
theorem benc_any (A : Option Addr) (n c : Nat) (cs : List Co) (v s : Int) (I : Option Addr) (m d : Nat) (l : List It) (w : World) (hr : Reads w w.heap.size 7 A n (cos cs)) (hn : n ≤ maxLen) (hi : ItemsAt w w.heap.size I m l) (hm : m ≤ maxLen) (hok : BaOk (v, s, l)) (hcl : ItOk l) (hT : Tab2 w.heap.size w) :
    Calls Tryz.prog 14 #[.slice A n c, .agg #[.int .i64 v, .int .i64 s, .slice I m d]] w (EncP (batE cs (v, s, l)) (encA cs (v, s, l)) w) := by
  have hin := callFunc_in Tryz.func40 (by kernel_rfl) (by kernel_rfl)
  obtain ⟨W2, hW2⟩ : ∃ W2, W2 = ((w.alloc (.cells #[.slice A n c] 22)).alloc (.cells #[.int .i64 v, .int .i64 s, .slice I m d] 25)).alloc (.cells #[.slice none 0 0] 26) := ⟨_, rfl⟩
  obtain ⟨W3, hW3⟩ : ∃ W3, W3 = W2.alloc (.cells #[.int .i64 0] 30) := ⟨_, rfl⟩
  have hb2 : Below w.heap.size w W2 := by rw [hW2]; exact bal (bal (bal (Below.refl _ _) _) _) _
  have hb3 : Below W2.heap.size W2 W3 := by rw [hW3]; exact bal (Below.refl _ _) _
  have hs2 : W2.heap.size = w.heap.size + 3 := by rw [hW2]; simp
  have hs3 : W3.heap.size = w.heap.size + 4 := by rw [hW3]; simp [hs2]
  have hw3 : Below w.heap.size w W3 := hb2.trans (hb3.mono (by omega))
  have B2 : Blk W3 (w.heap.size + 2) 26 #[.slice none 0 0] := by
    have := (Blk.new ((w.alloc (.cells #[.slice A n c] 22)).alloc (.cells #[.int .i64 v, .int .i64 s, .slice I m d] 25)) 26 #[.slice none 0 0]).alloc (.cells #[.int .i64 0] 30)
    rw [hW3, hW2]
    simpa using this
  have B1 : Blk W3 (w.heap.size + 1) 25 #[.int .i64 v, .int .i64 s, .slice I m d] := by
    have := ((Blk.new (w.alloc (.cells #[.slice A n c] 22)) 25 #[.int .i64 v, .int .i64 s, .slice I m d]).alloc (.cells #[.slice none 0 0] 26)).alloc (.cells #[.int .i64 0] 30)
    rw [hW3, hW2]
    simpa using this
  have B0 : Blk W3 w.heap.size 22 #[.slice A n c] := by
    have := (((Blk.new w 22 #[.slice A n c]).alloc (.cells #[.int .i64 v, .int .i64 s, .slice I m d] 25)).alloc (.cells #[.slice none 0 0] 26)).alloc (.cells #[.int .i64 0] 30)
    rw [hW3, hW2]
    exact this
  have BE : Blk W3 W2.heap.size 30 #[.int .i64 0] := by rw [hW3]; exact Blk.new _ _ _
  have HK := Lib.hid (caught_any 40 #[.pointer (some ⟨w.heap.size, 0, none⟩), .pointer (some ⟨w.heap.size + 1, 0, none⟩), .pointer (some ⟨w.heap.size + 2, 0, none⟩)] W2 (fun E w' => E = batE cs (v, s, l) ∧ EncR W3.heap.size (w.heap.size + 2) E (encA cs (v, s, l)) W3 w') hin (by
    rw [← hW3]
    refine (enc1_any w.heap.size w.heap.size (w.heap.size + 1) (w.heap.size + 2) A n c cs v s I m d l W3 (B0.cell 0) B1 B2 (by omega) (by omega) (by omega) (by omega) (hr.below hw3) hn (hi.below hw3) hm hok hcl (hT.keep hw3)).mono ?_
    rintro e w' ⟨rfl, hb⟩
    exact ⟨_, rfl, ⟨rfl, hb⟩, hb.1.blk BE (by omega) (by omega)⟩))
  have Hw3 := Lib.hid hw3
  clear hr hi hT hb2 hb3 B1 B0 BE B2 hw3
  go_enter Tryz.func14, Tryz.ntmps14
  go_wp2_with fail
  rw [← hW2]
  with_reducible refine HK.out.mono ?_
  rintro e w1 ⟨E, w2, rfl, ⟨rfl, hB, A2, n2, c2, hG, hO⟩, hE, rfl⟩
  have HB := Lib.hid ((Hw3.out.trans (hB.below (B2 := w.heap.size) (by omega) (by omega))).setCell (p := ⟨W2.heap.size, 0, none⟩) (by show w.heap.size ≤ W2.heap.size; omega) (.int .i64 (batE cs (v, s, l))))
  have hG2 := hG.far (p := ⟨W2.heap.size, 0, none⟩) (by show w.heap.size + 2 ≠ W2.heap.size; omega) (.int .i64 (batE cs (v, s, l)))
  have HO := Lib.hid (fun h => own_mono (own_far (hO h) hE (by decide) 0 (.int .i64 (batE cs (v, s, l)))) (show w.heap.size ≤ W3.heap.size by omega))
  generalize w2.setCell ⟨W2.heap.size, 0, none⟩ (.int .i64 (batE cs (v, s, l))) = w5 at *
  have HG := Lib.hid hG2
  have hcg := hG2.cell 0
  have hfg := hG2.frozen 0
  clear hB hG hO hE hG2 hs2 hs3
  by_cases hz : batE cs (v, s, l) = 0
  · have HZ := Lib.hid hz
    have HO := Lib.hid (HO.out hz)
    have HL := Lib.hid (show (encA cs (v, s, l)).length = n2 from reads_len (own_reads HO.out))
    have HB2 := Lib.hid (HB.out.setCell (p := ⟨w.heap.size + 2, 0, none⟩) (by show w.heap.size ≤ w.heap.size + 2; omega) (.slice A2 n2 c2))
    have HO2 := Lib.hid (own_far HO.out HG.out (by decide) 0 (.slice A2 n2 c2))
    have HG2 := (HG.out.set_ 0 (.slice A2 n2 c2)).cell 0
    simp only [List.setIfInBounds_toArray, List.set_cons_zero] at HG2
    rw [hz]
    clear hz
    go_wp2
    refine bodyPost_ret (v := .tuple #[.slice A2 n2 c2, .int .i64 0]) (by rw [results_cell_tmp rfl]; simp [go_sem, HG2]) rfl ?_
    exact ⟨HB2.out, .inl ⟨HZ.out, A2, c2, by rw [HL.out], by rw [HL.out]; exact HO2.out⟩⟩
  · have HZ := Lib.hid hz
    have hzb : (batE cs (v, s, l) != 0) = true := by simpa using hz
    have HB2 := Lib.hid (HB.out.setCell (p := ⟨w.heap.size + 2, 0, none⟩) (by show w.heap.size ≤ w.heap.size + 2; omega) (.slice none 0 0))
    have HG2 := (HG.out.set_ 0 (.slice none 0 0)).cell 0
    simp only [List.setIfInBounds_toArray, List.set_cons_zero] at HG2
    clear hz
    go_wp2
    refine bodyPost_ret (v := .tuple #[.slice none 0 0, .int .i64 (batE cs (v, s, l))]) (by rw [results_cell_tmp rfl]; simp [go_sem, HG2]) rfl ?_
    exact ⟨HB2.out, .inr ⟨HZ.out, rfl⟩⟩
end Go.Proofs.YtegcbjkikhheiaaGreatDoor
namespace Go.Proofs.YtegcbjkikhheiaaGreatDoor
open Go.RowKit Go.Shelf
attribute [local go_sem] Oper.semAt_some
set_option maxRecDepth 100000 in
theorem gbytes_any (A : Option Addr) (n c : Nat) (v s : Int) (I : Option Addr) (m d : Nat) (w : World) :
    Calls Tryz.prog 53 #[.slice A n c, .agg #[.int .i64 v, .int .i64 s, .slice I m d]] w fun e w' => e = .returned (.func (.func 92) #[] #[.pointer (some ⟨w.heap.size, 0, none⟩), .pointer (some ⟨w.heap.size + 1, 0, none⟩)]) ∧
      w' = (w.alloc (.cells #[.slice A n c] 22)).alloc (.cells #[.int .i64 v, .int .i64 s, .slice I m d] 25) := by
  go_enter Tryz.func53, Tryz.ntmps53
  go_wp2
  go_ret
  exact ⟨rfl, rfl⟩
theorem wrap64_step (k : Nat) : wrap64 (wrap64 (k : Int) + 1) = wrap64 (((k + 1 : Nat)) : Int) := by
  unfold wrap64
  rw [show ((k : Int) + 9223372036854775808) % 18446744073709551616 - 9223372036854775808 + 1 + 9223372036854775808 = ((k : Int) + 9223372036854775808) % 18446744073709551616 + 1 from by
    generalize ((k : Int) + 9223372036854775808) % 18446744073709551616 = q
    omega, Int.emod_add_emod, show (k : Int) + 9223372036854775808 + 1 = ((k + 1 : Nat) : Int) + 9223372036854775808 from by omega]
theorem wrap64_zero : wrap64 ((([] : List UInt8).length : Nat) : Int) = 0 := by
  simp [wrap64]
def sizeV (cs : List Co) (b : Ba) : Int := if batE cs b = 0 then ((encA cs b).length : Int) else 0
set_option maxRecDepth 100000 in
set_option maxHeartbeats 4000000 in
theorem gsize_any (A : Option Addr) (n c : Nat) (cs : List Co) (v s : Int) (I : Option Addr) (m d : Nat) (li : List It) (w : World) (hr : Reads w w.heap.size 7 A n (cos cs)) (hn : n ≤ maxLen) (hi : ItemsAt w w.heap.size I m li) (hm : m ≤ maxLen) (hs : s ≤ 9223372036854775807) (hok : ItOk li) (hT : Tab2 w.heap.size w) :
    Calls Tryz.prog 16 #[.slice A n c, .agg #[.int .i64 v, .int .i64 s, .slice I m d]] w fun e w' => e = .returned (.tuple #[.int .i64 (sizeV cs (v, s, li)), .int .i64 (batE cs (v, s, li))]) ∧ Below w.heap.size w w' := by
  have Hr := Lib.hid hr
  have Hi := Lib.hid hi
  have HT := Lib.hid hT
  have Hok := Lib.hid hok
  have HP := Lib.hid ((Blk.new w 25 #[.int .i64 v, .int .i64 s, .slice I m d]).alloc (.cells #[.int .i64 0] 3))
  have HN := Lib.hid (Blk.new (w.alloc (.cells #[.int .i64 v, .int .i64 s, .slice I m d] 25)) 3 #[.int .i64 0])
  rw [show (w.alloc (.cells #[.int .i64 v, .int .i64 s, .slice I m d] 25)).heap.size = w.heap.size + 1 by simp] at HN
  have HB := Lib.hid (bal (bal (Below.refl w.heap.size w) (.cells #[.int .i64 v, .int .i64 s, .slice I m d] 25)) (.cells #[.int .i64 0] 3))
  clear hr hi hT hok
  refine (callsIn_wide (n := 10)).1 ?_
  refine callsIn_of_wp_marks Tryz.func16 rfl trivial ?_ rfl
  simp only [Tryz.ntmps16, List.size_toArray, List.length_cons, List.length_nil, Nat.reduceAdd, Nat.reduceSub, Array.replicate_succ, Array.replicate_zero, List.push_toArray, List.append_toArray, List.nil_append, List.cons_append]
  gi_wp2_with fail
  refine ⟨trivial, (callsIn_wide.2 (bCheck_any A n c cs v s I m d li _ (Hr.out.on HB.out) hn (Hi.out.on HB.out) hm (HT.out.on HB.out).tabs)).mono ?_⟩
  rintro e w1 ⟨rfl, hb1⟩
  have HP1 := Lib.hid (HP.out.on hb1)
  have HN1 := Lib.hid (HN.out.on hb1)
  have HB1 := Lib.hid (bon HB.out hb1)
  have n0 := HN1.out.cell 0
  have f0 := HN1.out.frozen 0
  have p0 := HP1.out.cell 0
  have p1 := HP1.out.cell 1
  have p2 := HP1.out.cell 2
  clear hb1 HP HN HB
  by_cases hE : batE cs (v, s, li) = 0
  · have hf := (fits_iff _ _).1 hE
    have hsv : sizeV cs (v, s, li) = ((encA cs (v, s, li)).length : Int) := by unfold sizeV; rw [if_pos hE]
    have hle := hf.enc_le
    have Hf := Lib.hid hf
    have Hsv := Lib.hid hsv
    have HE0 := Lib.hid hE
    rw [hE]
    clear hE hf hsv
    gi_wp2_with fail
    refine ⟨trivial, (callsIn_wide.2 (gbytes_any A n c v s I m d _)).mono ?_⟩
    rintro e w2 ⟨rfl, hw2⟩
    have HC2 := Lib.hid (show Blk w2 w1.heap.size 22 #[.slice A n c] by rw [hw2]; exact (Blk.new _ _ _).alloc _)
    have HD2 := Lib.hid (show Blk w2 (w1.heap.size + 1) 25 #[.int .i64 v, .int .i64 s, .slice I m d] by
      rw [hw2]
      have := Blk.new (w1.alloc (.cells #[.slice A n c] 22)) 25 #[.int .i64 v, .int .i64 s, .slice I m d]
      rwa [show (w1.alloc (.cells #[.slice A n c] 22)).heap.size = w1.heap.size + 1 by simp] at this)
    have hb2 : Below w1.heap.size w1 w2 := by rw [hw2]; exact bal (bal (Below.refl _ _) _) _
    have HN2 := Lib.hid (HN1.out.on hb2)
    have HB2 := Lib.hid (bon HB1.out hb2)
    clear n0 f0 p0 p1 p2 hw2 hb2 HP1 HN1
    gi_wp2_with fail
    have hb02 := HB2.out.size
    have hz1 : w.heap.size + 1 < w2.heap.size := HN2.out.lt
    refine wpIn_rangeFunc_B (n := 10) (by decide) (gf := 92) (lb := #[.pointer (some ⟨w1.heap.size, 0, none⟩), .pointer (some ⟨w1.heap.size + 1, 0, none⟩)]) rfl (fun args w => callFunc_in Tryz.func92 (by kernel_rfl) (by kernel_rfl) args w)
      (bytes1_seq 9 w.heap.size w1.heap.size (w1.heap.size + 1) A n c cs v s I m d li w2 hb02 HC2.out HD2.out (Hr.out.below HB2.out) (Hi.out.below HB2.out) Hf.out Hok.out hs (HT.out.keep HB2.out)) (Below.refl _ _) (fun _ => rfl) hb02
      (fun pre W => Blk W (w.heap.size + 1) 3 #[.int .i64 (wrap64 ((pre.length : Nat) : Int))] ∧ Below w.heap.size w W) (fun _ _ _ => False)
      (fun s A A' h hb => ⟨h.1.belowL hb hz1, h.2.trans (hb.mono hb02)⟩) (fun _ _ _ _ h _ => h) ⟨by rw [wrap64_zero]; exact HN2.out, HB2.out⟩ ?a1 ?assign ?body ?done ?stop
    case assign =>
      intro l x W K hK
      gi_wp2
      exact hK
    case body =>
      rintro l pre x W ⟨hI, hIb⟩ hWs
      have c0 := hI.cell 0
      have f0 := hI.frozen 0
      have Hnx := Lib.hid (hI.set_ 0 (.int .i64 (wrap64 (((pre ++ [x]).length : Nat) : Int))))
      have hwr : wrap64 (wrap64 ((pre.length : Nat) : Int) + 1) = wrap64 (((pre ++ [x]).length : Nat) : Int) := by
        rw [List.length_append]
        exact wrap64_step pre.length
      have Hwr := Lib.hid hwr
      have HIb := Lib.hid hIb
      clear hI hIb hwr
      gi_wp2
      rw [Hwr.out]
      have hn2 := Hnx.out
      simp only [List.setIfInBounds_toArray, List.set_cons_zero] at hn2
      exact ⟨(Mid.refl _ _ _).setCell (p := ⟨w.heap.size + 1, 0, none⟩) (by show w.heap.size ≤ w.heap.size + 1; omega) (.inl hz1) _, hn2, HIb.out.setCell (p := ⟨w.heap.size + 1, 0, none⟩) (by show w.heap.size ≤ w.heap.size + 1; omega) _⟩
    case done =>
      rintro D xs W hD rfl ⟨hI, hIb⟩ hK
      rw [show wrap64 (((encA cs (v, s, li)).length : Nat) : Int) = (((encA cs (v, s, li)).length : Nat) : Int) by unfold wrap64; omega, ← Hsv.out] at hI
      obtain ⟨sv, hsz⟩ : ∃ sv, sizeV cs (v, s, li) = sv := ⟨_, rfl⟩
      have Hsz := Lib.hid hsz
      rw [hsz] at hI
      clear hsz
      have c0 := hI.cell 0
      have f0 := hI.frozen 0
      have HI2 := hI.set_ 0 (.int .i64 sv)
      simp only [List.setIfInBounds_toArray, List.set_cons_zero] at HI2
      have HI2 := Lib.hid HI2
      have HIb := Lib.hid (hIb.setCell (p := ⟨w.heap.size + 1, 0, none⟩) (by show w.heap.size ≤ w.heap.size + 1; omega) (.int .i64 sv))
      have HK := Lib.hid (show (W.setCell ⟨w.heap.size + 1, 0, none⟩ (.int .i64 sv)).heap[D]? = some (.deferred (some [])) from (Below.heap_setCell W ⟨w.heap.size + 1, 0, none⟩ _ D (by show D ≠ w.heap.size + 1; omega)).trans hK)
      clear hI hIb hK
      gi_wp2
      refine ⟨by simp, .inl ⟨_, _, rfl, run_takeDeferred HK.out, ?_⟩⟩
      have hDl : D < (W.setCell ⟨w.heap.size + 1, 0, none⟩ (.int .i64 sv)).heap.size := (Array.getElem?_eq_some_iff.1 HK.out).1
      have hpb := put_below (W.setCell ⟨w.heap.size + 1, 0, none⟩ (.int .i64 sv)) D (.deferred none) w2.heap.size (by omega) hD
      have k0 := (HI2.out.belowL hpb hz1).cell 0
      refine ⟨.tuple #[.int .i64 sv, .int .i64 0], by rw [results_cell_tmp rfl]; simp [go_sem, k0], by rw [Hsz.out, HE0.out], HIb.out.trans (hpb.mono hb02)⟩
    case stop =>
      rintro D c pre W _ _ h _
      exact h.elim
  · have hE2 : (batE cs (v, s, li) != 0) = true := by simpa using hE
    have Hsv := Lib.hid (show sizeV cs (v, s, li) = 0 by unfold sizeV; rw [if_neg hE])
    obtain ⟨E, hEE⟩ : ∃ E, batE cs (v, s, li) = E := ⟨_, rfl⟩
    rw [hEE] at hE2 ⊢
    have HEE := Lib.hid hEE
    have hN2 := HN1.out.set_ 0 (.int .i64 0)
    simp only [List.setIfInBounds_toArray, List.set_cons_zero] at hN2
    have k0 := hN2.cell 0
    have HB2 := Lib.hid (HB1.out.setCell (p := ⟨w.heap.size + 1, 0, none⟩) (by show w.heap.size ≤ w.heap.size + 1; omega) (.int .i64 0))
    clear hE hEE hN2
    gi_wp2
    refine ⟨.tuple #[.int .i64 0, .int .i64 E], by rw [results_cell_tmp rfl]; simp [go_sem, k0], ?_⟩
    rw [Hsv.out, HEE.out]
    exact ⟨rfl, HB2.out⟩
end Go.Proofs.YtegcbjkikhheiaaGreatDoor
namespace Go.Proofs.YtegcbjkikhheiaaGreatDoor
open Go.RowKit Go.Shelf
attribute [local go_sem] Oper.semAt_some
def whereV (cs : List Co) (b : Ba) (xs : List UInt8) : Int := if batE cs b = 0 then ((lcp (encA cs b) xs : Nat) : Int) else 0
set_option maxRecDepth 100000 in
set_option maxHeartbeats 4000000 in
theorem gwhere_any (A : Option Addr) (n c : Nat) (cs : List Co) (v s : Int) (I : Option Addr) (m d : Nat) (li : List It) (X : Option Addr) (xn xc : Nat) (xs : List UInt8) (w : World) (hr : Reads w w.heap.size 7 A n (cos cs)) (hn : n ≤ maxLen) (hi : ItemsAt w w.heap.size I m li) (hm : m ≤ maxLen) (hs : s ≤ 9223372036854775807) (hok : ItOk li)
    (hx : Reads w w.heap.size 1 X xn (u8s xs)) (hxn : xn ≤ maxLen) (hT : Tab2 w.heap.size w) :
    Calls Tryz.prog 26 #[.slice A n c, .agg #[.int .i64 v, .int .i64 s, .slice I m d], .slice X xn xc] w fun e w' => e = .returned (.tuple #[.int .i64 (whereV cs (v, s, li) xs), .int .i64 (batE cs (v, s, li))]) ∧ Below w.heap.size w w' := by
  have Hr := Lib.hid hr
  have Hi := Lib.hid hi
  have HT := Lib.hid hT
  have Hok := Lib.hid hok
  have Hx := Lib.hid hx
  have HP := Lib.hid (((Blk.new w 25 #[.int .i64 v, .int .i64 s, .slice I m d]).alloc (.cells #[.slice X xn xc] 26)).alloc (.cells #[.int .i64 0] 3))
  have HX := Lib.hid ((Blk.new (w.alloc (.cells #[.int .i64 v, .int .i64 s, .slice I m d] 25)) 26 #[.slice X xn xc]).alloc (.cells #[.int .i64 0] 3))
  rw [show (w.alloc (.cells #[.int .i64 v, .int .i64 s, .slice I m d] 25)).heap.size = w.heap.size + 1 by simp] at HX
  have HN := Lib.hid (Blk.new ((w.alloc (.cells #[.int .i64 v, .int .i64 s, .slice I m d] 25)).alloc (.cells #[.slice X xn xc] 26)) 3 #[.int .i64 0])
  rw [show ((w.alloc (.cells #[.int .i64 v, .int .i64 s, .slice I m d] 25)).alloc (.cells #[.slice X xn xc] 26)).heap.size = w.heap.size + 2 by simp] at HN
  have HB := Lib.hid (bal (bal (bal (Below.refl w.heap.size w) (.cells #[.int .i64 v, .int .i64 s, .slice I m d] 25)) (.cells #[.slice X xn xc] 26)) (.cells #[.int .i64 0] 3))
  clear hr hi hT hok hx
  refine (callsIn_wide (n := 10)).1 ?_
  refine callsIn_of_wp_marks Tryz.func26 rfl trivial ?_ rfl
  simp only [Tryz.ntmps26, List.size_toArray, List.length_cons, List.length_nil, Nat.reduceAdd, Nat.reduceSub, Array.replicate_succ, Array.replicate_zero, List.push_toArray, List.append_toArray, List.nil_append, List.cons_append]
  gi_wp2_with fail
  refine ⟨trivial, (callsIn_wide.2 (bCheck_any A n c cs v s I m d li _ (Hr.out.on HB.out) hn (Hi.out.on HB.out) hm (HT.out.on HB.out).tabs)).mono ?_⟩
  rintro e w1 ⟨rfl, hb1⟩
  have HP1 := Lib.hid (HP.out.on hb1)
  have HX1 := Lib.hid (HX.out.on hb1)
  have HN1 := Lib.hid (HN.out.on hb1)
  have HB1 := Lib.hid (bon HB.out hb1)
  have n0 := HN1.out.cell 0
  have f0 := HN1.out.frozen 0
  have p0 := HP1.out.cell 0
  have p1 := HP1.out.cell 1
  have p2 := HP1.out.cell 2
  clear hb1 HP HN HX HB
  by_cases hE : batE cs (v, s, li) = 0
  · have hf := (fits_iff _ _).1 hE
    have hsv : whereV cs (v, s, li) xs = ((lcp (encA cs (v, s, li)) xs : Nat) : Int) := by unfold whereV; rw [if_pos hE]
    have hle := hf.enc_le
    have Hf := Lib.hid hf
    have Hsv := Lib.hid hsv
    have HE0 := Lib.hid hE
    rw [hE]
    clear hE hf hsv
    gi_wp2_with fail
    refine ⟨trivial, (callsIn_wide.2 (gbytes_any A n c v s I m d _)).mono ?_⟩
    rintro e w2 ⟨rfl, hw2⟩
    have HC2 := Lib.hid (show Blk w2 w1.heap.size 22 #[.slice A n c] by rw [hw2]; exact (Blk.new _ _ _).alloc _)
    have HD2 := Lib.hid (show Blk w2 (w1.heap.size + 1) 25 #[.int .i64 v, .int .i64 s, .slice I m d] by
      rw [hw2]
      have := Blk.new (w1.alloc (.cells #[.slice A n c] 22)) 25 #[.int .i64 v, .int .i64 s, .slice I m d]
      rwa [show (w1.alloc (.cells #[.slice A n c] 22)).heap.size = w1.heap.size + 1 by simp] at this)
    have hb2 : Below w1.heap.size w1 w2 := by rw [hw2]; exact bal (bal (Below.refl _ _) _) _
    have HN2 := Lib.hid (HN1.out.on hb2)
    have HX2 := Lib.hid (HX1.out.on hb2)
    have HB2 := Lib.hid (bon HB1.out hb2)
    clear n0 f0 p0 p1 p2 hw2 hb2 HP1 HN1 HX1
    gi_wp2_with fail
    have hb02 := HB2.out.size
    have hz1 : w.heap.size + 2 < w2.heap.size := HN2.out.lt
    have hxl : xs.length = xn := by have := Hx.out.1; simpa [u8s] using this
    refine wpIn_rangeFunc_B (n := 10) (by decide) (gf := 92) (lb := #[.pointer (some ⟨w1.heap.size, 0, none⟩), .pointer (some ⟨w1.heap.size + 1, 0, none⟩)]) rfl (fun args w => callFunc_in Tryz.func92 (by kernel_rfl) (by kernel_rfl) args w)
      (bytes1_seq 9 w.heap.size w1.heap.size (w1.heap.size + 1) A n c cs v s I m d li w2 hb02 HC2.out HD2.out (Hr.out.below HB2.out) (Hi.out.below HB2.out) Hf.out Hok.out hs (HT.out.keep HB2.out)) (Below.refl _ _) (fun _ => rfl) hb02
      (fun pre W => lcp pre xs = pre.length ∧ Blk W (w.heap.size + 2) 3 #[.int .i64 (pre.length : Int)] ∧ Blk W (w.heap.size + 1) 26 #[.slice X xn xc] ∧ Below w.heap.size w W)
      (fun cd pre W => cd = .exit 0 ∧ lcp pre xs < pre.length ∧ Blk W (w.heap.size + 2) 3 #[.int .i64 ((lcp pre xs : Nat) : Int)] ∧ Below w.heap.size w W)
      (fun s A A' h hb => ⟨h.1, h.2.1.belowL hb hz1, h.2.2.1.belowL hb (by omega), h.2.2.2.trans (hb.mono hb02)⟩) (fun cd s A A' h hb => ⟨h.1, h.2.1, h.2.2.1.belowL hb hz1, h.2.2.2.trans (hb.mono hb02)⟩)
      ⟨by cases xs <;> rfl, HN2.out, HX2.out, HB2.out⟩ ?a1 ?assign ?body ?done ?stop
    case assign =>
      intro l x W K hK
      gi_wp2
      exact hK
    case body =>
      rintro l pre x W ⟨hpre, hI, hX, hIb⟩ hWs
      have c0 := hI.cell 0
      have f0 := hI.frozen 0
      have x0 := hX.cell 0
      have hlw := lcp_whole pre xs x hpre
      have hl2 := lcp_le2 pre xs
      rw [hpre] at hl2
      have Hpre := Lib.hid hpre
      have HIb := Lib.hid hIb
      have HI := Lib.hid hI
      have HX := Lib.hid hX
      clear hpre hIb hI hX
      obtain ⟨i, hi⟩ : ∃ i, pre.length = i := ⟨_, rfl⟩
      have Hi2 := Lib.hid hi
      rw [hi] at c0 hlw hl2 HI
      clear hi
      by_cases hq : i = xn
      · have e0 : ((i : Int) == (xn : Int)) = true := by simp [hq]
        have hout : xs[i]? = none := List.getElem?_eq_none (by omega)
        rw [hout, if_neg (by simp)] at hlw
        have Hlw := Lib.hid hlw
        clear hlw hout hq
        gi_wp2
        exact ⟨Mid.refl _ _ _, rfl, by rw [Hlw.out, List.length_append, Hi2.out]; simp, by rw [Hlw.out]; exact HI.out, HIb.out⟩
      · have e0 : ((i : Int) == (xn : Int)) = false := by simp; omega
        have hib : i < xs.length := by omega
        obtain ⟨ad, hX, -, hcell⟩ := (Hx.out.below HIb.out).2 (by omega)
        have hc := hcell i (.int .u8 ((xs[i]).toNat : Int)) (by simp [u8s, hib])
        subst hX
        have hbi : decide ((i : Int) < (xn : Int)) = true := by simp; omega
        by_cases hxe : xs[i] = x
        · have e1 : ((((xs[i]).toNat : Nat) : Int) != ((x.toNat : Nat) : Int)) = false := by rw [hxe]; simp
          rw [List.getElem?_eq_getElem hib, hxe, if_pos rfl] at hlw
          have Hlw := Lib.hid hlw
          have Hnx := Lib.hid (HI.out.set_ 0 (.int .i64 (((i + 1 : Nat)) : Int)))
          have hwr : wrap64 ((i : Int) + 1) = ((i + 1 : Nat) : Int) := by have := hxn; unfold maxLen at this; unfold wrap64; omega
          have Hwr := Lib.hid hwr
          have Hhq := Lib.hid hq
          clear hlw hxe hwr hq
          gi_wp2
          rw [Hwr.out]
          have hn2 := Hnx.out
          simp only [List.setIfInBounds_toArray, List.set_cons_zero] at hn2
          exact ⟨(Mid.refl _ _ _).setCell (p := ⟨w.heap.size + 2, 0, none⟩) (by show w.heap.size ≤ w.heap.size + 2; omega) (.inl hz1) _, by rw [Hlw.out, List.length_append, Hi2.out]; rfl, by rw [List.length_append, Hi2.out]; exact hn2,
            HX.out.far (p := ⟨w.heap.size + 2, 0, none⟩) (by show w.heap.size + 1 ≠ w.heap.size + 2; omega) _, HIb.out.setCell (p := ⟨w.heap.size + 2, 0, none⟩) (by show w.heap.size ≤ w.heap.size + 2; omega) _⟩
        · have e1 : ((((xs[i]).toNat : Nat) : Int) != ((x.toNat : Nat) : Int)) = true := by
            have : (xs[i]).toNat ≠ x.toNat := fun h => hxe (UInt8.toNat_inj.1 h)
            simp; omega
          rw [List.getElem?_eq_getElem hib, if_neg (by simpa using hxe)] at hlw
          have Hlw := Lib.hid hlw
          have Hhq := Lib.hid hq
          clear hlw hxe hq
          gi_wp2
          exact ⟨Mid.refl _ _ _, rfl, by rw [Hlw.out, List.length_append, Hi2.out]; simp, by rw [Hlw.out]; exact HI.out, HIb.out⟩
    case done =>
      rintro D ys W hD rfl ⟨hpre, hI, hX, hIb⟩ hK
      obtain ⟨sv, hsz⟩ : ∃ sv, (((encA cs (v, s, li)).length : Nat) : Int) = sv := ⟨_, rfl⟩
      have Hsz := Lib.hid (show whereV cs (v, s, li) xs = sv by rw [Hsv.out, hpre]; exact hsz)
      rw [hsz] at hI
      clear hsz hX hpre
      have c0 := hI.cell 0
      have f0 := hI.frozen 0
      have HI2 := hI.set_ 0 (.int .i64 sv)
      simp only [List.setIfInBounds_toArray, List.set_cons_zero] at HI2
      have HI2 := Lib.hid HI2
      have HIb := Lib.hid (hIb.setCell (p := ⟨w.heap.size + 2, 0, none⟩) (by show w.heap.size ≤ w.heap.size + 2; omega) (.int .i64 sv))
      have HK := Lib.hid (show (W.setCell ⟨w.heap.size + 2, 0, none⟩ (.int .i64 sv)).heap[D]? = some (.deferred (some [])) from (Below.heap_setCell W ⟨w.heap.size + 2, 0, none⟩ _ D (by show D ≠ w.heap.size + 2; omega)).trans hK)
      clear hI hIb hK
      gi_wp2
      refine ⟨by simp, .inl ⟨_, _, rfl, run_takeDeferred HK.out, ?_⟩⟩
      have hDl : D < (W.setCell ⟨w.heap.size + 2, 0, none⟩ (.int .i64 sv)).heap.size := (Array.getElem?_eq_some_iff.1 HK.out).1
      have hpb := put_below (W.setCell ⟨w.heap.size + 2, 0, none⟩ (.int .i64 sv)) D (.deferred none) w2.heap.size (by omega) hD
      have k0 := (HI2.out.belowL hpb hz1).cell 0
      refine ⟨.tuple #[.int .i64 sv, .int .i64 0], by rw [results_cell_tmp rfl]; simp [go_sem, k0], by rw [Hsz.out, HE0.out], HIb.out.trans (hpb.mono hb02)⟩
    case stop =>
      rintro D cd pre W hD hpre ⟨rfl, hlt, hI, hIb⟩ hK
      obtain ⟨rest, hrest⟩ := hpre
      obtain ⟨sv, hsz⟩ : ∃ sv, ((lcp pre xs : Nat) : Int) = sv := ⟨_, rfl⟩
      have Hsz := Lib.hid (show whereV cs (v, s, li) xs = sv by rw [Hsv.out, ← hrest, lcp_stuck pre xs rest hlt]; exact hsz)
      rw [hsz] at hI
      clear hsz hrest hlt
      have c0 := hI.cell 0
      have f0 := hI.frozen 0
      have HI2 := hI.set_ 0 (.int .i64 sv)
      simp only [List.setIfInBounds_toArray, List.set_cons_zero] at HI2
      have HI2 := Lib.hid HI2
      have HIb := Lib.hid (hIb.setCell (p := ⟨w.heap.size + 2, 0, none⟩) (by show w.heap.size ≤ w.heap.size + 2; omega) (.int .i64 sv))
      have HK := Lib.hid (show (W.setCell ⟨w.heap.size + 2, 0, none⟩ (.int .i64 sv)).heap[D]? = some (.deferred (some [])) from (Below.heap_setCell W ⟨w.heap.size + 2, 0, none⟩ _ D (by show D ≠ w.heap.size + 2; omega)).trans hK)
      clear hI hIb hK
      gi_wp2
      refine ⟨by simp, .inl ⟨_, _, rfl, run_takeDeferred HK.out, ?_⟩⟩
      have hDl : D < (W.setCell ⟨w.heap.size + 2, 0, none⟩ (.int .i64 sv)).heap.size := (Array.getElem?_eq_some_iff.1 HK.out).1
      have hpb := put_below (W.setCell ⟨w.heap.size + 2, 0, none⟩ (.int .i64 sv)) D (.deferred none) w2.heap.size (by omega) hD
      have k0 := (HI2.out.belowL hpb hz1).cell 0
      refine ⟨.tuple #[.int .i64 sv, .int .i64 0], by rw [results_cell_tmp rfl]; simp [go_sem, k0], by rw [Hsz.out, HE0.out], HIb.out.trans (hpb.mono hb02)⟩
  · have hE2 : (batE cs (v, s, li) != 0) = true := by simpa using hE
    have Hsv := Lib.hid (show whereV cs (v, s, li) xs = 0 by unfold whereV; rw [if_neg hE])
    obtain ⟨E, hEE⟩ : ∃ E, batE cs (v, s, li) = E := ⟨_, rfl⟩
    rw [hEE] at hE2 ⊢
    have HEE := Lib.hid hEE
    have hN2 := HN1.out.set_ 0 (.int .i64 0)
    simp only [List.setIfInBounds_toArray, List.set_cons_zero] at hN2
    have k0 := hN2.cell 0
    have HB2 := Lib.hid (HB1.out.setCell (p := ⟨w.heap.size + 2, 0, none⟩) (by show w.heap.size ≤ w.heap.size + 2; omega) (.int .i64 0))
    clear hE hEE hN2
    gi_wp2
    refine ⟨.tuple #[.int .i64 0, .int .i64 E], by rw [results_cell_tmp rfl]; simp [go_sem, k0], ?_⟩
    rw [Hsv.out, HEE.out]
    exact ⟨rfl, HB2.out⟩
end Go.Proofs.YtegcbjkikhheiaaGreatDoor
namespace Go.Proofs.YtegcbjkikhheiaaGreatDoor
open Go.RowKit Go.Shelf
def matchV (cs : List Co) (b : Ba) (xs : List UInt8) : Int := if batE cs b = 0 then (if encA cs b = xs then 0 else 4) else batE cs b
theorem match_no {cs : List Co} {b : Ba} {xs : List UInt8} (h : ¬ (lcp (encA cs b) xs < xs.length ∨ (encA cs b).length ≠ xs.length)) : encA cs b = xs := by
  have h2 := lcp_le2 (encA cs b) xs
  exact lcp_full (by omega) (by omega)
theorem match_yes {cs : List Co} {b : Ba} {xs : List UInt8} (h : lcp (encA cs b) xs < xs.length ∨ (encA cs b).length ≠ xs.length) : encA cs b ≠ xs := by
  intro e
  rw [e, lcp_self] at h
  omega
set_option maxRecDepth 100000 in
set_option maxHeartbeats 4000000 in
theorem gmatch_any (A : Option Addr) (n c : Nat) (cs : List Co) (v s : Int) (I : Option Addr) (m d : Nat) (li : List It) (X : Option Addr) (xn xc : Nat) (xs : List UInt8) (w : World) (hr : Reads w w.heap.size 7 A n (cos cs)) (hn : n ≤ maxLen) (hi : ItemsAt w w.heap.size I m li) (hm : m ≤ maxLen) (hs : s ≤ 9223372036854775807) (hok : ItOk li)
    (hx : Reads w w.heap.size 1 X xn (u8s xs)) (hxn : xn ≤ maxLen) (hT : Tab2 w.heap.size w) :
    Calls Tryz.prog 18 #[.slice A n c, .agg #[.int .i64 v, .int .i64 s, .slice I m d], .slice X xn xc] w fun e w' => e = .returned (.int .i64 (matchV cs (v, s, li) xs)) ∧ Below w.heap.size w w' := by
  have Hr := Lib.hid hr
  have Hi := Lib.hid hi
  have HT := Lib.hid hT
  have Hok := Lib.hid hok
  have Hx := Lib.hid hx
  have hxl : xs.length = xn := by have := hx.1; simpa [u8s] using this
  have HP := Lib.hid (Blk.new w 25 #[.int .i64 v, .int .i64 s, .slice I m d])
  have HB := Lib.hid (bal (Below.refl w.heap.size w) (.cells #[.int .i64 v, .int .i64 s, .slice I m d] 25))
  clear hr hi hT hok hx
  go_enter Tryz.func18, Tryz.ntmps18
  go_wp2_with fail
  with_reducible refine (gwhere_any A n c cs v s I m d li X xn xc xs _ (Hr.out.on HB.out) hn (Hi.out.on HB.out) hm hs Hok.out (Hx.out.on HB.out) hxn (HT.out.on HB.out)).mono ?_
  rintro e w1 ⟨rfl, hb1⟩
  have HP1 := Lib.hid (HP.out.on hb1)
  have HB1 := Lib.hid (bon HB.out hb1)
  have p0 := HP1.out.cell 0
  have p1 := HP1.out.cell 1
  have p2 := HP1.out.cell 2
  clear hb1 HP HB
  by_cases hE : batE cs (v, s, li) = 0
  · have hwv : whereV cs (v, s, li) xs = ((lcp (encA cs (v, s, li)) xs : Nat) : Int) := by unfold whereV; rw [if_pos hE]
    have hsv : sizeV cs (v, s, li) = ((encA cs (v, s, li)).length : Int) := by unfold sizeV; rw [if_pos hE]
    have hmv : matchV cs (v, s, li) xs = if encA cs (v, s, li) = xs then 0 else 4 := by unfold matchV; rw [if_pos hE]
    obtain ⟨a, ha⟩ : ∃ a, lcp (encA cs (v, s, li)) xs = a := ⟨_, rfl⟩
    obtain ⟨b, hb⟩ : ∃ b, (encA cs (v, s, li)).length = b := ⟨_, rfl⟩
    have hyes := match_yes (cs := cs) (b := (v, s, li)) (xs := xs)
    have hno := match_no (cs := cs) (b := (v, s, li)) (xs := xs)
    rw [ha, hb, hxl] at hyes hno
    rw [ha] at hwv
    rw [hb] at hsv
    have Hsv := Lib.hid hsv
    have Hmv := Lib.hid hmv
    have HE0 := Lib.hid hE
    rw [hE, hwv]
    clear hE hwv hsv hmv ha hb
    go_wp2_with fail
    refine (gsize_any A n c cs v s I m d li _ (Hr.out.on HB1.out) hn (Hi.out.on HB1.out) hm hs Hok.out (HT.out.on HB1.out)).mono ?_
    rintro e w2 ⟨rfl, hb2⟩
    have HB2 := Lib.hid (bon HB1.out hb2)
    rw [Hsv.out, HE0.out]
    clear p0 p1 p2 hb2 HB1 HP1
    by_cases hab : a < xn ∨ b ≠ xn
    · have HY := Lib.hid (hyes hab)
      clear hyes hno
      by_cases h1 : a < xn
      · have e1 : decide ((a : Int) < (xn : Int)) = true := by simp; omega
        clear hab
        go_wp2
        go_ret
        exact ⟨by rw [Hmv.out, if_neg HY.out]; rfl, HB2.out⟩
      · have e1 : decide ((a : Int) < (xn : Int)) = false := by simp; omega
        have e2 : ((b : Int) != (xn : Int)) = true := by simp; omega
        have h2 : xn ≤ a := by omega
        have h3 : ¬ (b = xn) := by omega
        clear hab h1
        go_wp2
        go_ret
        exact ⟨by rw [Hmv.out, if_neg HY.out]; rfl, HB2.out⟩
    · have HY := Lib.hid (hno hab)
      have e1 : decide ((a : Int) < (xn : Int)) = false := by simp; omega
      have e2 : ((b : Int) != (xn : Int)) = false := by simp; omega
      have h2 : xn ≤ a := by omega
      have h3 : b = xn := by omega
      have Hbx := Lib.hid h3
      clear hyes hno hab h3
      go_wp2
      go_ret
      exact ⟨by rw [Hmv.out, if_pos HY.out]; rfl, HB2.out⟩
  · have hE2 : (batE cs (v, s, li) != 0) = true := by simpa using hE
    have Hmv := Lib.hid (show matchV cs (v, s, li) xs = batE cs (v, s, li) by unfold matchV; rw [if_neg hE])
    obtain ⟨E, hEE⟩ : ∃ E, batE cs (v, s, li) = E := ⟨_, rfl⟩
    rw [hEE] at hE2 ⊢
    have HEE := Lib.hid hEE
    generalize whereV cs (v, s, li) xs = wv
    clear hE hEE
    go_wp2
    go_ret
    exact ⟨by rw [Hmv.out, HEE.out]; rfl, HB1.out⟩
end Go.Proofs.YtegcbjkikhheiaaGreatDoor
