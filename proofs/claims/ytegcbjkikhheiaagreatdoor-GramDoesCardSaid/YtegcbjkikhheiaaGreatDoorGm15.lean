/- Part 15 of the walks, merged: each text under its own heading. Conditions: none of its own; each lemma states what it asks. -/
import Derived.Test.YtegcbjkikhheiaaGreatDoorGm14
import Derived.Defers
import Derived.Recover
set_option linter.unusedVariables false
set_option linter.unusedSimpArgs false
namespace Go.Proofs.YtegcbjkikhheiaaGreatDoor
open Go.RowKit
theorem gwrap_nat (n : Nat) (h : n ≤ 9223372036854775807) : IntKind.u64.wrap (n : Int) = (n : Int) := by
  simp [IntKind.wrap, IntKind.signed, IntKind.bits]
  omega
theorem Blk.apartG {w w' : World} {g r : Nat} {t : TypeId} {cs : Array Value} (h : Blk w g t cs) (hg : w.grownBy w' (some r)) (hne : g ≠ r) : Blk w' g t cs := (hg.block g h.lt (fun e => hne (Option.some.inj e))).trans h
section
variable {J Jx : List UInt8 → World → Prop} {base B : Nat} {f : FuncId} {caps : Array Value}
set_option maxRecDepth 100000 in
set_option maxHeartbeats 1000000 in
theorem st1_any (hy : YOk f caps J Jx base B) (g : Nat) (pre : List UInt8) (u : Bool) (x : Int) (s : ByteArray) (W : World) (hJ : J pre W) (hg : Blk W g 131 #[yv f caps]) (hs : s.size ≤ maxLen) :
    Calls Tryz.prog 207 (#[.agg #[.bool u, .int .i64 x, .string s]] ++ #[.pointer (some ⟨g, 0, none⟩)]) W (Emit J Jx base B pre (putText s) W) := by
  have Hy := Lib.hid hy
  have HJ := Lib.hid (hy.alJ hJ (.cells #[.bool u, .int .i64 x, .string s] 53))
  have HM := Lib.hid ((Mid.refl base B W).alloc (.cells #[.bool u, .int .i64 x, .string s] 53))
  have hg2 := hg.alloc (.cells #[.bool u, .int .i64 x, .string s] 53)
  have c0 := hg2.cell 0
  clear hy hJ hg hg2
  rw [show (#[Value.agg #[.bool u, .int .i64 x, .string s]] ++ #[Value.pointer (some ⟨g, 0, none⟩)]) = #[Value.agg #[.bool u, .int .i64 x, .string s], Value.pointer (some ⟨g, 0, none⟩)] from rfl]
  go_enter Tryz.func207, Tryz.ntmps207
  go_wp2_with fail
  with_reducible refine (ytext_any Hy.out s pre _ HJ.out hs).mono ?_
  intro e w2 hE
  have HE := Lib.hid (Emit.ahead HM.out hE)
  rcases hE.1 with ⟨rfl, -⟩ | ⟨rfl, -⟩
  · clear hE
    go_wp2
    go_ret
    exact HE.out
  · clear hE
    go_wp2
    go_ret
    exact HE.out
set_option maxRecDepth 100000 in
set_option maxHeartbeats 1000000 in
theorem st2_any (hy : YOk f caps J Jx base B) (g g2 g3 : Nat) (n m : Nat) (d : List ByteArray) (pre : List UInt8) (u : Bool) (x : Int) (s : ByteArray) (W : World) (hJ : J pre W) (hg : Blk W g 131 #[yv f caps]) (hg2 : Blk W g2 212 #[.map (some g3)]) (hmap : MapT W g3 n m (atF d)) (hs : s.size ≤ maxLen) (hd : numOf d s < 9223372036854775807) :
    Calls Tryz.prog 208 (#[.agg #[.bool u, .int .i64 x, .string s]] ++ #[.pointer (some ⟨g, 0, none⟩), .pointer (some ⟨g2, 0, none⟩)]) W (Emit J Jx base B pre (leb (numOf d s)) W) := by
  have Hy := Lib.hid hy
  have HJ := Lib.hid (hy.alJ hJ (.cells #[.bool u, .int .i64 x, .string s] 53))
  have HM := Lib.hid ((Mid.refl base B W).alloc (.cells #[.bool u, .int .i64 x, .string s] 53))
  have c0 := (hg.alloc (.cells #[.bool u, .int .i64 x, .string s] 53)).cell 0
  have c2 := (hg2.alloc (.cells #[.bool u, .int .i64 x, .string s] 53)).cell 0
  have Hmap := Lib.hid (hmap.al (.cells #[.bool u, .int .i64 x, .string s] 53))
  obtain ⟨nn, hnn⟩ : ∃ nn, numOf d s = nn := ⟨_, rfl⟩
  have Hat := Lib.hid (show (atF d s).getD 0 = (nn : Int) by
    unfold atF
    rw [← hnn]
    unfold numOf
    cases placeL d s <;> rfl)
  rw [hnn] at hd ⊢
  clear hy hJ hg hg2 hmap hnn
  rw [show (#[Value.agg #[.bool u, .int .i64 x, .string s]] ++ #[Value.pointer (some ⟨g, 0, none⟩), Value.pointer (some ⟨g2, 0, none⟩)]) = #[Value.agg #[.bool u, .int .i64 x, .string s], Value.pointer (some ⟨g, 0, none⟩), Value.pointer (some ⟨g2, 0, none⟩)] from rfl]
  go_enter Tryz.func208, Tryz.ntmps208
  obtain ⟨r, hr⟩ : ∃ r, atF d s = r := ⟨_, rfl⟩
  rw [hr] at Hat
  have Hr := Lib.hid hr
  clear hr
  go_wp2_with (first
    | (at_lookup; refine wpList_mapS_get rfl _ _ _ rfl Hmap.out Tryz.underlying3 Tryz.underlying9 Tryz.underlying212 (zero_int _) s hs r Hr.out rfl rfl ?_))
  rw [Hat.out, gwrap_nat nn (by omega)]
  with_reducible refine (ynumber_any Hy.out nn pre _ HJ.out (by omega)).mono ?_
  intro e w2 hE
  have HE := Lib.hid (Emit.ahead HM.out hE)
  rcases hE.1 with ⟨rfl, -⟩ | ⟨rfl, -⟩
  · clear hE
    go_wp2
    go_ret
    exact HE.out
  · clear hE
    go_wp2
    go_ret
    exact HE.out
def txsC (l : List Cl) : List ByteArray := l.map (·.2.2)
set_option maxRecDepth 100000 in
set_option maxHeartbeats 4000000 in
theorem ystrings_any (hy : YOk f caps J Jx base B) (A : Option Addr) (n c : Nat) (l : List Cl) (pre : List UInt8) (w : World) (hJ : J pre w) (ho : w.ownsRow B 53 3 (.slice A n c) n (cls l)) (hn : n ≤ 1099511627776) (hok : ∀ x ∈ l, x.2.2.size ≤ maxLen) :
    Calls Tryz.prog 177 #[yv f caps, .slice A n c] w (Emit J Jx base B pre (putD (txsC l)) w) := by
  obtain ⟨j0, hj0, hk0, hj1, hk2⟩ := info_parts cell_info
  have hent1 : ∀ args w', (callFunc 207 args).run Tryz.prog w' = .ok (.enter 207 args) w' := fun args w' => callFunc_in Tryz.func207 (by kernel_rfl) (by kernel_rfl) args w'
  have hent2 : ∀ args w', (callFunc 208 args).run Tryz.prog w' = .ok (.enter 208 args) w' := fun args w' => callFunc_in Tryz.func208 (by kernel_rfl) (by kernel_rfl) args w'
  have Hent1 := Lib.hid hent1
  have Hent2 := Lib.hid hent2
  have Hy := Lib.hid hy
  have HJ := Lib.hid hJ
  have HO := Lib.hid ho
  have Hln := Lib.hid (cls_len (own_reads ho))
  have Hok := Lib.hid hok
  have hBw := hy.big _ _ hJ
  have hmm := @run_makeMap Tryz.prog
  clear hent1 hent2 hy hJ ho hok
  go_enter Tryz.func177, Tryz.ntmps177
  go_wp2
  clear hmm
  rw [show w.heap.size + 1 + 1 = w.heap.size + 2 from rfl]
  obtain ⟨W0, hW0⟩ : ∃ W0, ((w.alloc (.cells #[yv f caps] 131)).alloc (.map #[] 0)).alloc (.cells #[.map (some (w.heap.size + 1))] 212) = W0 := ⟨_, rfl⟩
  obtain ⟨hB0, hY0, hM0, hP0, hs0⟩ : Below w.heap.size w W0 ∧ Blk W0 w.heap.size 131 #[yv f caps] ∧ MapT W0 (w.heap.size + 1) 0 0 (atF []) ∧ Blk W0 (w.heap.size + 2) 212 #[.map (some (w.heap.size + 1))] ∧ W0.heap.size = w.heap.size + 3 := by
    rw [← hW0]
    have s1 : (w.alloc (.cells #[yv f caps] 131)).heap.size = w.heap.size + 1 := by simp
    have s2 : ((w.alloc (.cells #[yv f caps] 131)).alloc (.map #[] 0)).heap.size = w.heap.size + 2 := by simp
    refine ⟨bal (bal (bal (Below.refl _ _) _) _) _, ((Blk.new w _ _).alloc _).alloc _, ?_, ?_, by simp⟩
    · have := MapS.al (MapS.made (P := Tryz.prog) (k := 9) (e := 3) (w.alloc (.cells #[yv f caps] 131))) (.cells #[.map (some (w.heap.size + 1))] 212)
      rw [s1] at this
      exact MapS.same this (fun s => by rfl)
    · have := Blk.new ((w.alloc (.cells #[yv f caps] 131)).alloc (.map #[] 0)) 212 #[.map (some (w.heap.size + 1))]
      rw [s2] at this
      exact this
  rw [hW0]
  have HB0 := Lib.hid hB0
  have HY0 := Lib.hid hY0
  have HM0 := Lib.hid hM0
  have HP0 := Lib.hid hP0
  clear hW0 hB0 hY0 hM0 hP0
  go_loopw [6, 14] (fun v ix wr => ∃ (i nd : Nat) (Au : Option Addr) (cu : Nat) (ul : List Cl), i ≤ n ∧ nd ≤ i ∧ v = .slice Au nd cu ∧ ix = .int .i64 (i : Int) ∧ Hid (txsC ul = dct ((txsC l).take i)) ∧ Hid (∀ x ∈ ul, x.2.2.size ≤ maxLen) ∧ Hid (wr.ownsRow W0.heap.size 53 3 (.slice Au nd cu) nd (cls ul)) ∧ Hid (MapT wr (w.heap.size + 1) i nd (atF (txsC ul))) ∧ Hid (Blk wr w.heap.size 131 #[yv f caps]) ∧ Hid (Blk wr (w.heap.size + 2) 212 #[.map (some (w.heap.size + 1))]) ∧ Hid (Below w.heap.size w wr) ∧ W0.heap.size ≤ wr.heap.size) (fun _ ix _ => n - (intOf ix).toNat)
  case atStart => exact ⟨0, 0, none, 0, [], Nat.zero_le _, Nat.zero_le _, rfl, rfl, Lib.hid rfl, Lib.hid (by simp), Lib.hid (World.ownsRow_nil _ _ _ _), HM0, HY0, HP0, HB0, Nat.le_refl _⟩
  case round =>
    clear HB0 HY0 HM0 HP0
    obtain ⟨i, nd, Au, cu, ul, hi, hnd, rfl, rfl, Hd, Hu, HU, HM, HY, HP, HB, hsz⟩ := hrel
    by_cases hlt : i < n
    · have d1 : decide ((i : Int) < (n : Int)) = true := by simp; omega
      have hii : (i : Int) < (n : Int) := by omega
      have hi1 : i + 1 ≤ n := hlt
      obtain ⟨ad, u, x, s, rfl, hbk, hb, g0, g1, g2⟩ := cls_at ((own_reads HO.out).below HB.out) hlt
      have hss := Hok.out _ (List.mem_of_getElem? hb)
      simp only at hss
      have htx : (txsC l)[i]? = some s := by unfold txsC; rw [List.getElem?_map, hb]; rfl
      have HMa := Lib.hid (HM.out.al (.cells #[.bool u, .int .i64 x, .string s] 53))
      have HPa := HP.out.alloc (.cells #[.bool u, .int .i64 x, .string s] 53)
      have HYa := Lib.hid (HY.out.alloc (.cells #[.bool u, .int .i64 x, .string s] 53))
      have HBa := Lib.hid (bal HB.out (.cells #[.bool u, .int .i64 x, .string s] 53))
      have HUa := Lib.hid (HU.out.alloc (.cells #[.bool u, .int .i64 x, .string s] 53))
      have HXa := Lib.hid (Blk.new wr 53 #[.bool u, .int .i64 x, .string s])
      have p0 := HPa.cell 0
      have Hul := Lib.hid (show (txsC ul).length = nd by have := HU.out.1; rw [cls_length] at this; unfold txsC; simp; omega)
      rcases hp : placeL (txsC ul) s with _ | j
      · have hno : s ∉ (txsC l).take i := fun h => (placeL_none _ s).1 hp (by rw [Hd.out]; exact (dct_mem _ s).2 h)
        have hst := dct_take_out htx hno
        rw [← Hd.out] at hst
        have Hst := Lib.hid (show txsC (ul ++ [(u, x, s)]) = dct ((txsC l).take (i + 1)) by rw [hst]; simp [txsC])
        have Hat := Lib.hid (show atF (txsC ul) s = none from by unfold atF; rw [hp]; rfl)
        have hput := atF_put (txsC ul) s hp
        rw [Hul.out] at hput
        have Hput := Lib.hid hput
        have hs1 : nd + 1 ≤ maxLen := by simp only [maxLen]; omega
        have hs2 : (nd + 1) * 32 ≤ 70368744177664 := by omega
        clear hst hput hp hno htx hbk hb
        go_wp2_with (first
          | (at_lookup; refine wpList_mapS_ok rfl _ _ _ rfl HMa.out Tryz.underlying3 Tryz.underlying9 Tryz.underlying212 (zero_int _) s hss none Hat.out rfl rfl ?_)
          | (at_mapUpdate
             refine wpList_mapS_store rfl _ _ _ _ rfl HMa.out Tryz.underlying3 Tryz.underlying9 Tryz.underlying212 (by simp only [maxLen]; omega) s hss (nd : Int) (by simp [Lit.wf, IntKind.min, IntKind.max, IntKind.signed, IntKind.bits]; omega) rfl rfl rfl ?_
             intro w5 hmap5 hg5
             rw [Hat.out] at hmap5
             have HM5 := Lib.hid (MapS.same hmap5 (f' := atF (txsC ul ++ [s])) (fun r => Hput.out r))
             have HU5 := Lib.hid (own_map HMa.out HUa.out hg5)
             have HY5 := Lib.hid (HYa.out.apartG hg5 (by omega))
             have HP5 := Lib.hid (HPa.apartG hg5 (by omega))
             have hX5 := HXa.out.apartG hg5 (by omega)
             have hB5 := HBa.out.grown hg5 (by have := HBa.out.size; omega) (by intro q hq; cases hq; omega)
             have HB5 := Lib.hid hB5
             have hz5 := hg5.size
             have x0 := hX5.cell 0
             have x1 := hX5.cell 1
             have x2 := hX5.cell 2
             clear hmap5 hg5 hX5 hB5)
          | (at_builtin
             refine wpList_append_any _ rfl (.tmp 32) (.tmp 34) 54 rfl W0.heap.size 53 j0 (.agg #[.bool false, .int .i64 0, .string ⟨#[]⟩]) 3 32 Tryz.underlying54 hj0 hk0 hj1 hk2 rfl (by decide) Au nd cu _ rfl (HU5.out.alloc _) (some ⟨_, 0, none⟩) 1 1 (cls [(u, x, s)]) rfl (by exact reads_cell _ _ _ _) (cls_one _) hs1 hs2 (by simp at hz5 ⊢; omega) ?_
             intro A8 c8 w8 r1 r2 r3 r4 r5
             rw [← cls_append] at r1
             have R1 := Lib.hid r1
             have R2 := Lib.hid r2
             have R3 := Lib.hid r3
             clear r1 r2 r3 r4 r5))
        have HM8 := Lib.hid ((HM5.out.al (.cells #[.bool u, .int .i64 x, .string s] 53)).grown R3.out ((HM5.out.al (.cells #[.bool u, .int .i64 x, .string s] 53)).apart (HU5.out.alloc _)))
        rw [if_neg (by simp), ← show txsC (ul ++ [(u, x, s)]) = txsC ul ++ [s] by simp [txsC]] at HM8
        have HY8 := Lib.hid ((HY5.out.alloc (.cells #[.bool u, .int .i64 x, .string s] 53)).apart (HU5.out.alloc _) (by decide) R3.out)
        have HP8 := Lib.hid ((HP5.out.alloc (.cells #[.bool u, .int .i64 x, .string s] 53)).apart (HU5.out.alloc _) (by decide) R3.out)
        have HB8 := Lib.hid ((bal HB5.out (.cells #[.bool u, .int .i64 x, .string s] 53)).trans (R2.out.mono (by omega)))
        have hsz8 : W0.heap.size ≤ w8.heap.size := by
          have h1 := R2.out.size
          simp at h1 hz5
          omega
        have Hu8 := Lib.hid (show ∀ y ∈ ul ++ [(u, x, s)], y.2.2.size ≤ maxLen from fun y hy => by
          rcases List.mem_append.1 hy with h | h
          · exact Hu.out y h
          · obtain rfl := List.mem_singleton.1 h
            exact hss)
        go_roundw
        case rel => exact ⟨i + 1, nd + 1, A8, c8, ul ++ [(u, x, s)], hi1, by omega, rfl, by go_num, Hst, Hu8, R1, HM8, HY8, HP8, HB8, hsz8⟩
        case measure => simp [intOf]; omega
      · have hin : s ∈ (txsC l).take i := by
          have := placeL_mem.1 ⟨j, hp⟩
          rw [Hd.out] at this
          exact (dct_mem _ s).1 this
        have hst := dct_take_in htx hin
        rw [← Hd.out] at hst
        have Hst := Lib.hid hst.symm
        have Hat := Lib.hid (show atF (txsC ul) s = some (j : Int) from by unfold atF; rw [hp]; rfl)
        clear hst hp hin htx hbk hb
        go_wp2_with (first
          | (at_lookup; refine wpList_mapS_ok rfl _ _ _ rfl HMa.out Tryz.underlying3 Tryz.underlying9 Tryz.underlying212 (zero_int _) s hss (some (j : Int)) Hat.out rfl rfl ?_))
        have HM8 := Lib.hid (HMa.out.mono (Nat.le_succ i))
        have hsz8 : W0.heap.size ≤ (wr.alloc (.cells #[.bool u, .int .i64 x, .string s] 53)).heap.size := by simp; omega
        have HP8 := Lib.hid HPa
        go_roundw
        case rel => exact ⟨i + 1, nd, Au, cu, ul, hi1, by omega, rfl, by go_num, Hst, Hu, HUa, HM8, HYa, HP8, HBa, hsz8⟩
        case measure => simp [intOf]; omega
    · obtain rfl : i = n := by omega
      have d1 : decide ((i : Int) < (i : Int)) = false := by simp
      have hd := Hd.out
      rw [List.take_of_length_le (by unfold txsC; rw [List.length_map, Hln.out]; exact Nat.le_refl _)] at hd
      have Hul : (txsC ul).length = nd := by have := HU.out.1; rw [cls_length] at this; unfold txsC; simp; omega
      have htot : putD (txsC l) = leb nd ++ (ul.flatMap (fun c => putText c.2.2) ++ l.flatMap fun c => leb (numOf (txsC ul) c.2.2)) := by
        rw [putD_eq, ← hd, Hul]
        unfold txsC
        rw [List.flatMap_map, List.flatMap_map]
      have Htot := Lib.hid htot
      have HJr := Lib.hid (Hy.out.onJ HJ.out HB.out)
      have HMr := Lib.hid (Mid.of_below (base := base) (B := B) HB.out)
      have HOr := Lib.hid (own_below HO.out HB.out)
      have hcu := own_caps HU.out
      have Hnum := Lib.hid (show ∀ c ∈ l, numOf (txsC ul) c.2.2 < 9223372036854775807 from fun c hc => by
        have h1 := numOf_lt (txsC l) c.2.2 (by unfold txsC; exact List.mem_map.2 ⟨c, hc, rfl⟩)
        rw [← hd, Hul] at h1
        omega)
      have HEnv := Lib.hid (show ∀ W W', (Blk W w.heap.size 131 #[yv f caps] ∧ Blk W (w.heap.size + 2) 212 #[.map (some (w.heap.size + 1))] ∧ MapT W (w.heap.size + 1) i nd (atF (txsC ul))) → Mid base B W W' → (Blk W' w.heap.size 131 #[yv f caps] ∧ Blk W' (w.heap.size + 2) 212 #[.map (some (w.heap.size + 1))] ∧ MapT W' (w.heap.size + 1) i nd (atF (txsC ul))) from
        fun W W' h hm => ⟨h.1.mid hm hBw, h.2.1.mid hm (by omega), h.2.2.block (hm.block _ h.2.2.lt (.inr (by omega)))⟩)
      have HD1 := Lib.hid (show DoOk J Jx base B (fun W => Blk W w.heap.size 131 #[yv f caps] ∧ Blk W (w.heap.size + 2) 212 #[.map (some (w.heap.size + 1))] ∧ MapT W (w.heap.size + 1) i nd (atF (txsC ul))) 207 #[.pointer (some ⟨w.heap.size, 0, none⟩)] ul (fun c => putText c.2.2) from
        ⟨HEnv.out, fun pre u x s W hm hj he => st1_any Hy.out w.heap.size pre u x s W hj he.1 (Hu.out _ hm), Hent1.out⟩)
      have HD2 := Lib.hid (show DoOk J Jx base B (fun W => Blk W w.heap.size 131 #[yv f caps] ∧ Blk W (w.heap.size + 2) 212 #[.map (some (w.heap.size + 1))] ∧ MapT W (w.heap.size + 1) i nd (atF (txsC ul))) 208 #[.pointer (some ⟨w.heap.size, 0, none⟩), .pointer (some ⟨w.heap.size + 2, 0, none⟩)] l (fun c => leb (numOf (txsC ul) c.2.2)) from
        ⟨HEnv.out, fun pre u x s W hm hj he => st2_any Hy.out w.heap.size (w.heap.size + 2) (w.heap.size + 1) i nd (txsC ul) pre u x s W hj he.1 he.2.1 he.2.2 (Hok.out _ hm) (Hnum.out _ hm), Hent2.out⟩)
      have HE0 := Lib.hid (And.intro HY.out (And.intro HP.out HM.out))
      have c0 := HY.out.cell 0
      clear hd htot hcu Hd Hul
      go_wp2_with fail
      with_reducible refine (ynumber_any Hy.out nd pre _ HJr.out (by omega)).mono ?_
      rintro e w1 ⟨⟨rfl, hJ1⟩ | ⟨rfl, q, hq, hx⟩, hm1⟩
      case inr =>
        have HY := Lib.hid (show Emit J Jx base B pre (putD (txsC l)) w (.returned (.bool false)) w1 by
          rw [Htot.out]
          exact Emit.stop HMr.out hq hx hm1)
        clear hq hx hm1 c0
        go_wp2
        go_ret
        exact HY.out
      have HJ1 := Lib.hid hJ1
      have HM1 := Lib.hid (HMr.out.trans hm1)
      have HU1 := Lib.hid (own_mono (own_mid HU.out hm1 (by omega)) (show B ≤ W0.heap.size by omega))
      have HO1 := Lib.hid (own_mid HOr.out hm1 (Nat.le_refl _))
      have HE1 := Lib.hid (HEnv.out _ _ HE0.out hm1)
      clear hJ1 hm1 c0 HU HOr HE0
      go_wp2_with fail
      with_reducible refine (each_any Hy.out Au nd cu ul (pre ++ leb nd) _ HD1.out HE1.out HJ1.out HU1.out).mono ?_
      rintro e w2 ⟨⟨rfl, hJ2⟩ | ⟨rfl, q, hq, hx⟩, hm2⟩
      case inr =>
        have HY := Lib.hid (show Emit J Jx base B pre (putD (txsC l)) w (.returned (.bool false)) w2 by
          rw [Htot.out]
          exact Emit.after HM1.out (Emit.stop (Mid.refl _ _ _) hq hx hm2))
        clear hq hx hm2
        go_wp2
        go_ret
        exact HY.out
      have HJ2 := Lib.hid hJ2
      have HM2 := Lib.hid (HM1.out.trans hm2)
      have HO2 := Lib.hid (own_mid HO1.out hm2 (Nat.le_refl _))
      have HE2 := Lib.hid (HEnv.out _ _ HE1.out hm2)
      clear hJ2 hm2 HU1 HO1 HE1
      go_wp2_with fail
      with_reducible refine (each_any Hy.out A i c l ((pre ++ leb nd) ++ ul.flatMap (fun c => putText c.2.2)) _ HD2.out HE2.out HJ2.out HO2.out).mono ?_
      intro e w3 hE3
      have HY := Lib.hid (show Emit J Jx base B pre (putD (txsC l)) w e w3 by
        rw [Htot.out, ← List.append_assoc]
        refine Emit.after HM2.out ?_
        rw [← List.append_assoc]
        exact hE3)
      rcases hE3.1 with ⟨rfl, -⟩ | ⟨rfl, -⟩
      · clear hE3
        go_wp2
        go_ret
        exact HY.out
      · clear hE3
        go_wp2
        go_ret
        exact HY.out
end
end Go.Proofs.YtegcbjkikhheiaaGreatDoor
namespace Go.Proofs.YtegcbjkikhheiaaGreatDoor
open Go.RowKit
section
variable {J Jx : List UInt8 → World → Prop} {base B : Nat} {f : FuncId} {caps : Array Value}
set_option maxRecDepth 100000 in
set_option maxHeartbeats 1000000 in
theorem co3_any (hy : YOk f caps J Jx base B) (g : Nat) (pre : List UInt8) (u : Bool) (x : Int) (s : ByteArray) (W : World) (hJ : J pre W) (hg : Blk W g 131 #[yv f caps]) (hs : s.size ≤ maxLen) :
    Calls Tryz.prog 179 (#[.agg #[.bool u, .int .i64 x, .string s]] ++ #[.pointer (some ⟨g, 0, none⟩)]) W (Emit J Jx base B pre (putText s) W) := by
  have Hy := Lib.hid hy
  have HJ := Lib.hid (hy.alJ hJ (.cells #[.bool u, .int .i64 x, .string s] 53))
  have HM := Lib.hid ((Mid.refl base B W).alloc (.cells #[.bool u, .int .i64 x, .string s] 53))
  have hg2 := hg.alloc (.cells #[.bool u, .int .i64 x, .string s] 53)
  have c0 := hg2.cell 0
  clear hy hJ hg hg2
  rw [show (#[Value.agg #[.bool u, .int .i64 x, .string s]] ++ #[Value.pointer (some ⟨g, 0, none⟩)]) = #[Value.agg #[.bool u, .int .i64 x, .string s], Value.pointer (some ⟨g, 0, none⟩)] from rfl]
  go_enter Tryz.func179, Tryz.ntmps179
  go_wp2_with fail
  with_reducible refine (ytext_any Hy.out s pre _ HJ.out hs).mono ?_
  intro e w2 hE
  have HE := Lib.hid (Emit.ahead HM.out hE)
  rcases hE.1 with ⟨rfl, -⟩ | ⟨rfl, -⟩
  · clear hE
    go_wp2
    go_ret
    exact HE.out
  · clear hE
    go_wp2
    go_ret
    exact HE.out
set_option maxRecDepth 100000 in
set_option maxHeartbeats 1000000 in
theorem co4_any (hy : YOk f caps J Jx base B) (g : Nat) (pre : List UInt8) (u : Bool) (x : Int) (s : ByteArray) (W : World) (hJ : J pre W) (hg : Blk W g 131 #[yv f caps]) (h1 : -9223372036854775808 ≤ x) (h2 : x ≤ 9223372036854775807) :
    Calls Tryz.prog 181 (#[.agg #[.bool u, .int .i64 x, .string s]] ++ #[.pointer (some ⟨g, 0, none⟩)]) W (Emit J Jx base B pre (leb (zig x)) W) := by
  have Hy := Lib.hid hy
  have HJ := Lib.hid (hy.alJ hJ (.cells #[.bool u, .int .i64 x, .string s] 53))
  have HM := Lib.hid ((Mid.refl base B W).alloc (.cells #[.bool u, .int .i64 x, .string s] 53))
  have hg2 := hg.alloc (.cells #[.bool u, .int .i64 x, .string s] 53)
  have c0 := hg2.cell 0
  clear hy hJ hg hg2
  rw [show (#[Value.agg #[.bool u, .int .i64 x, .string s]] ++ #[Value.pointer (some ⟨g, 0, none⟩)]) = #[Value.agg #[.bool u, .int .i64 x, .string s], Value.pointer (some ⟨g, 0, none⟩)] from rfl]
  go_enter Tryz.func181, Tryz.ntmps181
  go_wp2_with fail
  with_reducible refine (yzigzag_any Hy.out x pre _ HJ.out h1 h2).mono ?_
  intro e w2 hE
  have HE := Lib.hid (Emit.ahead HM.out hE)
  rcases hE.1 with ⟨rfl, -⟩ | ⟨rfl, -⟩
  · clear hE
    go_wp2
    go_ret
    exact HE.out
  · clear hE
    go_wp2
    go_ret
    exact HE.out
theorem rawsB_put (l : List Cl) : rawsB l = l.flatMap fun c => putText c.2.2 := by
  unfold rawsB putText
  congr 1
theorem someC_snoc {l : List Cl} {i : Nat} {c : Cl} (h : l[i]? = some c) : someC (l.take (i + 1)) = someC (l.take i) ++ (if c.1 then [] else [c]) := by
  unfold someC
  rw [List.take_add_one, h, List.filter_append]
  congr 1
  cases hc : c.1 <;> simp [hc]
theorem someC_mem {l : List Cl} {c : Cl} (h : c ∈ someC l) : c ∈ l := (List.mem_filter.1 h).1
set_option maxRecDepth 100000 in
set_option maxHeartbeats 8000000 in
theorem ycolumn_any (hy : YOk f caps J Jx base B) (k : Int) (nl : Bool) (A : Option Addr) (n c : Nat) (l : List Cl) (pre : List UInt8) (w : World) (hJ : J pre w) (ho : w.ownsRow B 53 3 (.slice A n c) n (cls l)) (hn : n ≤ 1099511627776) (hok : ClOk l) :
    Calls Tryz.prog 130 #[yv f caps, .agg #[.int .i64 k, .bool nl], .slice A n c] w (Emit J Jx base B pre (putB k nl l []) w) := by
  obtain ⟨j0, hj0, hk0, hj1, hk2⟩ := info_parts cell_info
  have hent3 : ∀ args w', (callFunc 179 args).run Tryz.prog w' = .ok (.enter 179 args) w' := fun args w' => callFunc_in Tryz.func179 (by kernel_rfl) (by kernel_rfl) args w'
  have hent4 : ∀ args w', (callFunc 181 args).run Tryz.prog w' = .ok (.enter 181 args) w' := fun args w' => callFunc_in Tryz.func181 (by kernel_rfl) (by kernel_rfl) args w'
  have Hent3 := Lib.hid hent3
  have Hent4 := Lib.hid hent4
  have Hy := Lib.hid hy
  have Hok3 := Lib.hid (show ∀ c ∈ l, -9223372036854775808 ≤ c.2.1 ∧ c.2.1 ≤ 9223372036854775807 ∧ c.2.2.size ≤ maxLen from hok)
  have hBw := hy.big _ _ hJ
  have Hln := Lib.hid (cls_len (own_reads ho))
  have HJ0 := Lib.hid (hy.alJ (hy.alJ hJ (.cells #[yv f caps] 131)) (.cells #[.int .i64 k, .bool nl] 62))
  have HM0 := Lib.hid (((Mid.refl base B w).alloc (.cells #[yv f caps] 131)).alloc (.cells #[.int .i64 k, .bool nl] 62))
  have HY0 := Lib.hid ((Blk.new w 131 #[yv f caps]).alloc (.cells #[.int .i64 k, .bool nl] 62))
  have HT0 := Lib.hid (Blk.new (w.alloc (.cells #[yv f caps] 131)) 62 #[.int .i64 k, .bool nl])
  rw [show (w.alloc (.cells #[yv f caps] 131)).heap.size = w.heap.size + 1 by simp] at HT0
  have HO0 := Lib.hid ((ho.alloc (.cells #[yv f caps] 131)).alloc (.cells #[.int .i64 k, .bool nl] 62))
  have hcap := own_caps ho
  have Hcap := Lib.hid hcap
  clear hent3 hent4 hy hok hJ ho hcap
  go_enter Tryz.func130, Tryz.ntmps130
  generalize hW : (w.alloc (.cells #[yv f caps] 131)).alloc (.cells #[.int .i64 k, .bool nl] 62) = W0 at *
  have HW := Lib.hid hW
  clear hW
  cases nl with
  | true =>
    have c0 := HY0.out.cell 0
    have t1 := HT0.out.cell 1
    rw [← HW.out] at c0 t1
    go_wp2_with fail
    rw [HW.out]
    with_reducible refine (ymask_any Hy.out there_ok A n c l pre _ HJ0.out Hcap.out.1 Hcap.out.2 (KeptC.own HO0.out)).mono ?_
    rintro e W1 ⟨⟨rfl, hJ1⟩ | ⟨rfl, q, hq, hx⟩, hm1⟩
    case inr =>
      have HY := Lib.hid (show Emit J Jx base B pre (putB k true l []) w (.returned (.bool false)) W1 by
        refine Emit.stop (bs := packL (l.map fun c => !c.1)) (bs2 := bareB k (someC l)) HM0.out hq hx hm1)
      clear hq hx hm1 c0 t1
      go_wp2
      go_ret
      exact HY.out
    have HJ1 := Lib.hid hJ1
    have HM1 := Lib.hid (HM0.out.trans hm1)
    have HO := Lib.hid (own_mid HO0.out hm1 (Nat.le_refl _))
    have HY1 := Lib.hid (HY0.out.mid hm1 hBw)
    have HT1 := Lib.hid (HT0.out.mid hm1 (by omega))
    clear hJ1 hm1 c0 t1 HJ0 HM0 HO0 HY0 HT0
    go_wp2
    go_loopw [8, 22] (fun v ix wr => ∃ (i nd : Nat) (Au : Option Addr) (cu : Nat), i ≤ n ∧ nd ≤ i ∧ v = .slice Au nd cu ∧ ix = .int .i64 (i : Int) ∧ Hid (wr.ownsRow W1.heap.size 53 3 (.slice Au nd cu) nd (cls (someC (l.take i)))) ∧ Hid (Below W1.heap.size W1 wr)) (fun _ ix _ => n - (intOf ix).toNat)
    case atStart => exact ⟨0, 0, none, 0, Nat.zero_le _, Nat.zero_le _, rfl, rfl, Lib.hid (World.ownsRow_nil _ _ _ _), Lib.hid (Below.refl _ _)⟩
    case round =>
      obtain ⟨i, nd, Au, cu, hi, hnd, rfl, rfl, HU, HB⟩ := hrel
      by_cases hlt : i < n
      · have d1 : decide ((i : Int) < (n : Int)) = true := by simp; omega
        have hii : (i : Int) < (n : Int) := by omega
        have hi1 : i + 1 ≤ n := hlt
        obtain ⟨ad, u, x, s, rfl, hbk, hb, g0, g1, g2⟩ := cls_at (own_reads (own_below HO.out HB.out)) hlt
        have Hst := Lib.hid (someC_snoc hb)
        simp only at Hst
        have HBa := Lib.hid (bal HB.out (.cells #[.bool u, .int .i64 x, .string s] 53))
        have HUa := Lib.hid (HU.out.alloc (.cells #[.bool u, .int .i64 x, .string s] 53))
        have HXa := Lib.hid (Blk.new wr 53 #[.bool u, .int .i64 x, .string s])
        clear hb hbk
        go_wp2_with fail
        with_reducible refine (gthere_any u x s _).mono ?_
        rintro e w2 ⟨rfl, hb2⟩
        have HB2 := Lib.hid (bon HBa.out hb2)
        have HU2 := Lib.hid (own_below HUa.out hb2)
        have hX2 := HXa.out.on hb2
        have x0 := hX2.cell 0
        have x1 := hX2.cell 1
        have x2 := hX2.cell 2
        clear hb2 HBa HUa HXa g0 g1 g2 hX2
        cases u with
        | true =>
          rw [if_pos rfl, List.append_nil] at Hst
          have HU2 := HU2.out
          rw [← Hst.out] at HU2
          have HU2 := Lib.hid HU2
          go_wp2
          go_roundw
          case rel => exact ⟨i + 1, nd, Au, cu, hi1, by omega, rfl, by go_num, HU2, HB2⟩
          case measure => simp [intOf]; omega
        | false =>
          rw [if_neg (by simp)] at Hst
          have hs1 : nd + 1 ≤ maxLen := by simp only [maxLen]; omega
          have hs2 : (nd + 1) * 32 ≤ 70368744177664 := by omega
          go_wp2_with (at_builtin
                       refine wpList_append_any _ rfl (.tmp 29) (.tmp 31) 54 rfl W1.heap.size 53 j0 (.agg #[.bool false, .int .i64 0, .string ⟨#[]⟩]) 3 32 Tryz.underlying54 hj0 hk0 hj1 hk2 rfl (by decide) Au nd cu _ rfl (HU2.out.alloc _) (some ⟨_, 0, none⟩) 1 1 (cls [(false, x, s)]) rfl (by exact reads_cell _ _ _ _) (cls_one _) hs1 hs2 (by have := HB2.out.size; simp; omega) ?_
                       intro A8 c8 w8 r1 r2 r3 r4 r5
                       rw [← cls_append, ← Hst.out] at r1
                       have R1 := Lib.hid r1
                       have R2 := Lib.hid ((bal HB2.out _).trans r2)
                       clear r1 r2 r3 r4 r5)
          go_roundw
          case rel => exact ⟨i + 1, nd + 1, A8, c8, hi1, by omega, rfl, by go_num, R1, R2⟩
          case measure => simp [intOf]; omega
      · obtain rfl : i = n := by omega
        have d1 : decide ((i : Int) < (i : Int)) = false := by simp
        have HU2 := HU.out
        rw [List.take_of_length_le (by rw [Hln.out]; exact Nat.le_refl _)] at HU2
        have hBW : B ≤ W1.heap.size := Hy.out.big _ _ HJ1.out
        have HUB := Lib.hid (own_mono HU2 hBW)
        have HJr := Lib.hid (Hy.out.onJ HJ1.out HB.out)
        have HMr := Lib.hid (HM1.out.trans (Mid.of_below (base := base) (B := B) HB.out))
        have hbx0 := HY1.out.on HB.out
        have hbx1 := HT1.out.on HB.out
        have HY2 := Lib.hid hbx0
        have c0 := hbx0.cell 0
        have t0 := hbx1.cell 0
        have hcu := own_caps HU2
        have Hcu := Lib.hid hcu
        have HEnv := Lib.hid (show ∀ W W', Blk W w.heap.size 131 #[yv f caps] → Mid base B W W' → Blk W' w.heap.size 131 #[yv f caps] from fun W W' h hm => h.mid hm hBw)
        clear HU HU2 hbx0 hbx1 hcu
        rcases (show k = 1 ∨ k = 4 ∨ k = 5 ∨ (k ≠ 1 ∧ k ≠ 4 ∧ k ≠ 5) by omega) with rfl | rfl | rfl | ⟨n1, n4, n5⟩
        · have Htot := Lib.hid (show packL (l.map fun c => !c.1) ++ packL ((someC l).map fun c => c.2.1 == 1) = putB 1 true l [] by simp [putB, bareB])
          go_wp2_with fail
          with_reducible refine (ymask_any Hy.out isone_ok Au nd cu (someC l) (pre ++ packL (l.map fun c => !c.1)) _ HJr.out Hcu.out.1 Hcu.out.2 (KeptC.own HUB.out)).mono ?_
          intro e w3 hE3
          have HY := Lib.hid (show Emit J Jx base B pre (putB 1 true l []) w e w3 by rw [← Htot.out]; exact Emit.after HMr.out hE3)
          rcases hE3.1 with ⟨rfl, -⟩ | ⟨rfl, -⟩
          all_goals
            clear hE3
            go_wp2
            go_ret
            exact HY.out
        · have Htot := Lib.hid (show packL (l.map fun c => !c.1) ++ putD (txsC (someC l)) = putB 4 true l [] by simp [putB, bareB, txsC])
          go_wp2_with fail
          with_reducible refine (ystrings_any Hy.out Au nd cu (someC l) (pre ++ packL (l.map fun c => !c.1)) _ HJr.out HUB.out (by omega) (fun x hx => (Hok3.out x (someC_mem hx)).2.2)).mono ?_
          intro e w3 hE3
          have HY := Lib.hid (show Emit J Jx base B pre (putB 4 true l []) w e w3 by rw [← Htot.out]; exact Emit.after HMr.out hE3)
          rcases hE3.1 with ⟨rfl, -⟩ | ⟨rfl, -⟩
          all_goals
            clear hE3
            go_wp2
            go_ret
            exact HY.out
        · have Htot := Lib.hid (show packL (l.map fun c => !c.1) ++ (someC l).flatMap (fun c => putText c.2.2) = putB 5 true l [] by simp [putB, bareB, rawsB_put])
          have HD := Lib.hid (show DoOk J Jx base B (fun W => Blk W w.heap.size 131 #[yv f caps]) 179 #[.pointer (some ⟨w.heap.size, 0, none⟩)] (someC l) (fun c => putText c.2.2) from
            ⟨HEnv.out, fun pre u x s W hm hj he => co3_any Hy.out w.heap.size pre u x s W hj he (Hok3.out _ (someC_mem hm)).2.2, Hent3.out⟩)
          go_wp2_with fail
          with_reducible refine (each_any Hy.out Au nd cu (someC l) (pre ++ packL (l.map fun c => !c.1)) _ HD.out HY2.out HJr.out HUB.out).mono ?_
          intro e w3 hE3
          have HY := Lib.hid (show Emit J Jx base B pre (putB 5 true l []) w e w3 by rw [← Htot.out]; exact Emit.after HMr.out hE3)
          rcases hE3.1 with ⟨rfl, -⟩ | ⟨rfl, -⟩
          all_goals
            clear hE3
            go_wp2
            go_ret
            exact HY.out
        · have e1 : (k == 1) = false := by simpa using n1
          have e4 : (k == 4) = false := by simpa using n4
          have e5 : (k == 5) = false := by simpa using n5
          have Htot := Lib.hid (show packL (l.map fun c => !c.1) ++ (someC l).flatMap (fun c => leb (zig c.2.1)) = putB k true l [] by simp [putB, bareB, n1, n4, n5, intsB])
          have HD := Lib.hid (show DoOk J Jx base B (fun W => Blk W w.heap.size 131 #[yv f caps]) 181 #[.pointer (some ⟨w.heap.size, 0, none⟩)] (someC l) (fun c => leb (zig c.2.1)) from
            ⟨HEnv.out, fun pre u x s W hm hj he => co4_any Hy.out w.heap.size pre u x s W hj he (Hok3.out _ (someC_mem hm)).1 (Hok3.out _ (someC_mem hm)).2.1, Hent4.out⟩)
          clear n1 n4 n5
          go_wp2_with fail
          with_reducible refine (each_any Hy.out Au nd cu (someC l) (pre ++ packL (l.map fun c => !c.1)) _ HD.out HY2.out HJr.out HUB.out).mono ?_
          intro e w3 hE3
          have HY := Lib.hid (show Emit J Jx base B pre (putB k true l []) w e w3 by rw [← Htot.out]; exact Emit.after HMr.out hE3)
          rcases hE3.1 with ⟨rfl, -⟩ | ⟨rfl, -⟩
          all_goals
            clear hE3
            go_wp2
            go_ret
            exact HY.out
  | false =>
    have HJ1 := Lib.hid (show J (pre ++ []) W0 by rw [List.append_nil]; exact HJ0.out)
    have HM1 := HM0
    have HO := HO0
    have HY1 := HY0
    have HT1 := HT0
    have t1 := HT0.out.cell 1
    rw [← HW.out] at t1
    go_wp2
    rw [HW.out]
    clear t1 HJ0 HM0 HO0 HY0 HT0 HW
    go_loopw [8, 22] (fun v ix wr => ∃ (i nd : Nat) (Au : Option Addr) (cu : Nat), i ≤ n ∧ nd ≤ i ∧ v = .slice Au nd cu ∧ ix = .int .i64 (i : Int) ∧ Hid (wr.ownsRow W0.heap.size 53 3 (.slice Au nd cu) nd (cls (someC (l.take i)))) ∧ Hid (Below W0.heap.size W0 wr)) (fun _ ix _ => n - (intOf ix).toNat)
    case atStart => exact ⟨0, 0, none, 0, Nat.zero_le _, Nat.zero_le _, rfl, rfl, Lib.hid (World.ownsRow_nil _ _ _ _), Lib.hid (Below.refl _ _)⟩
    case round =>
      obtain ⟨i, nd, Au, cu, hi, hnd, rfl, rfl, HU, HB⟩ := hrel
      by_cases hlt : i < n
      · have d1 : decide ((i : Int) < (n : Int)) = true := by simp; omega
        have hii : (i : Int) < (n : Int) := by omega
        have hi1 : i + 1 ≤ n := hlt
        obtain ⟨ad, u, x, s, rfl, hbk, hb, g0, g1, g2⟩ := cls_at (own_reads (own_below HO.out HB.out)) hlt
        have Hst := Lib.hid (someC_snoc hb)
        simp only at Hst
        have HBa := Lib.hid (bal HB.out (.cells #[.bool u, .int .i64 x, .string s] 53))
        have HUa := Lib.hid (HU.out.alloc (.cells #[.bool u, .int .i64 x, .string s] 53))
        have HXa := Lib.hid (Blk.new wr 53 #[.bool u, .int .i64 x, .string s])
        clear hb hbk
        go_wp2_with fail
        with_reducible refine (gthere_any u x s _).mono ?_
        rintro e w2 ⟨rfl, hb2⟩
        have HB2 := Lib.hid (bon HBa.out hb2)
        have HU2 := Lib.hid (own_below HUa.out hb2)
        have hX2 := HXa.out.on hb2
        have x0 := hX2.cell 0
        have x1 := hX2.cell 1
        have x2 := hX2.cell 2
        clear hb2 HBa HUa HXa g0 g1 g2 hX2
        cases u with
        | true =>
          rw [if_pos rfl, List.append_nil] at Hst
          have HU2 := HU2.out
          rw [← Hst.out] at HU2
          have HU2 := Lib.hid HU2
          go_wp2
          go_roundw
          case rel => exact ⟨i + 1, nd, Au, cu, hi1, by omega, rfl, by go_num, HU2, HB2⟩
          case measure => simp [intOf]; omega
        | false =>
          rw [if_neg (by simp)] at Hst
          have hs1 : nd + 1 ≤ maxLen := by simp only [maxLen]; omega
          have hs2 : (nd + 1) * 32 ≤ 70368744177664 := by omega
          go_wp2_with (at_builtin
                       refine wpList_append_any _ rfl (.tmp 29) (.tmp 31) 54 rfl W0.heap.size 53 j0 (.agg #[.bool false, .int .i64 0, .string ⟨#[]⟩]) 3 32 Tryz.underlying54 hj0 hk0 hj1 hk2 rfl (by decide) Au nd cu _ rfl (HU2.out.alloc _) (some ⟨_, 0, none⟩) 1 1 (cls [(false, x, s)]) rfl (by exact reads_cell _ _ _ _) (cls_one _) hs1 hs2 (by have := HB2.out.size; simp; omega) ?_
                       intro A8 c8 w8 r1 r2 r3 r4 r5
                       rw [← cls_append, ← Hst.out] at r1
                       have R1 := Lib.hid r1
                       have R2 := Lib.hid ((bal HB2.out _).trans r2)
                       clear r1 r2 r3 r4 r5)
          go_roundw
          case rel => exact ⟨i + 1, nd + 1, A8, c8, hi1, by omega, rfl, by go_num, R1, R2⟩
          case measure => simp [intOf]; omega
      · obtain rfl : i = n := by omega
        have d1 : decide ((i : Int) < (i : Int)) = false := by simp
        have HU2 := HU.out
        rw [List.take_of_length_le (by rw [Hln.out]; exact Nat.le_refl _)] at HU2
        have hBW : B ≤ W0.heap.size := Hy.out.big _ _ HJ1.out
        have HUB := Lib.hid (own_mono HU2 hBW)
        have HJr := Lib.hid (Hy.out.onJ HJ1.out HB.out)
        have HMr := Lib.hid (HM1.out.trans (Mid.of_below (base := base) (B := B) HB.out))
        have hbx0 := HY1.out.on HB.out
        have hbx1 := HT1.out.on HB.out
        have HY2 := Lib.hid hbx0
        have c0 := hbx0.cell 0
        have t0 := hbx1.cell 0
        have hcu := own_caps HU2
        have Hcu := Lib.hid hcu
        have HEnv := Lib.hid (show ∀ W W', Blk W w.heap.size 131 #[yv f caps] → Mid base B W W' → Blk W' w.heap.size 131 #[yv f caps] from fun W W' h hm => h.mid hm hBw)
        clear HU HU2 hbx0 hbx1 hcu
        rcases (show k = 1 ∨ k = 4 ∨ k = 5 ∨ (k ≠ 1 ∧ k ≠ 4 ∧ k ≠ 5) by omega) with rfl | rfl | rfl | ⟨n1, n4, n5⟩
        · have Htot := Lib.hid (show ([] : List UInt8) ++ packL ((someC l).map fun c => c.2.1 == 1) = putB 1 false l [] by simp [putB, bareB])
          go_wp2_with fail
          with_reducible refine (ymask_any Hy.out isone_ok Au nd cu (someC l) (pre ++ ([] : List UInt8)) _ HJr.out Hcu.out.1 Hcu.out.2 (KeptC.own HUB.out)).mono ?_
          intro e w3 hE3
          have HY := Lib.hid (show Emit J Jx base B pre (putB 1 false l []) w e w3 by rw [← Htot.out]; exact Emit.after HMr.out hE3)
          rcases hE3.1 with ⟨rfl, -⟩ | ⟨rfl, -⟩
          all_goals
            clear hE3
            go_wp2
            go_ret
            exact HY.out
        · have Htot := Lib.hid (show ([] : List UInt8) ++ putD (txsC (someC l)) = putB 4 false l [] by simp [putB, bareB, txsC])
          go_wp2_with fail
          with_reducible refine (ystrings_any Hy.out Au nd cu (someC l) (pre ++ ([] : List UInt8)) _ HJr.out HUB.out (by omega) (fun x hx => (Hok3.out x (someC_mem hx)).2.2)).mono ?_
          intro e w3 hE3
          have HY := Lib.hid (show Emit J Jx base B pre (putB 4 false l []) w e w3 by rw [← Htot.out]; exact Emit.after HMr.out hE3)
          rcases hE3.1 with ⟨rfl, -⟩ | ⟨rfl, -⟩
          all_goals
            clear hE3
            go_wp2
            go_ret
            exact HY.out
        · have Htot := Lib.hid (show ([] : List UInt8) ++ (someC l).flatMap (fun c => putText c.2.2) = putB 5 false l [] by simp [putB, bareB, rawsB_put])
          have HD := Lib.hid (show DoOk J Jx base B (fun W => Blk W w.heap.size 131 #[yv f caps]) 179 #[.pointer (some ⟨w.heap.size, 0, none⟩)] (someC l) (fun c => putText c.2.2) from
            ⟨HEnv.out, fun pre u x s W hm hj he => co3_any Hy.out w.heap.size pre u x s W hj he (Hok3.out _ (someC_mem hm)).2.2, Hent3.out⟩)
          go_wp2_with fail
          with_reducible refine (each_any Hy.out Au nd cu (someC l) (pre ++ ([] : List UInt8)) _ HD.out HY2.out HJr.out HUB.out).mono ?_
          intro e w3 hE3
          have HY := Lib.hid (show Emit J Jx base B pre (putB 5 false l []) w e w3 by rw [← Htot.out]; exact Emit.after HMr.out hE3)
          rcases hE3.1 with ⟨rfl, -⟩ | ⟨rfl, -⟩
          all_goals
            clear hE3
            go_wp2
            go_ret
            exact HY.out
        · have e1 : (k == 1) = false := by simpa using n1
          have e4 : (k == 4) = false := by simpa using n4
          have e5 : (k == 5) = false := by simpa using n5
          have Htot := Lib.hid (show ([] : List UInt8) ++ (someC l).flatMap (fun c => leb (zig c.2.1)) = putB k false l [] by simp [putB, bareB, n1, n4, n5, intsB])
          have HD := Lib.hid (show DoOk J Jx base B (fun W => Blk W w.heap.size 131 #[yv f caps]) 181 #[.pointer (some ⟨w.heap.size, 0, none⟩)] (someC l) (fun c => leb (zig c.2.1)) from
            ⟨HEnv.out, fun pre u x s W hm hj he => co4_any Hy.out w.heap.size pre u x s W hj he (Hok3.out _ (someC_mem hm)).1 (Hok3.out _ (someC_mem hm)).2.1, Hent4.out⟩)
          clear n1 n4 n5
          go_wp2_with fail
          with_reducible refine (each_any Hy.out Au nd cu (someC l) (pre ++ ([] : List UInt8)) _ HD.out HY2.out HJr.out HUB.out).mono ?_
          intro e w3 hE3
          have HY := Lib.hid (show Emit J Jx base B pre (putB k false l []) w e w3 by rw [← Htot.out]; exact Emit.after HMr.out hE3)
          rcases hE3.1 with ⟨rfl, -⟩ | ⟨rfl, -⟩
          all_goals
            clear hE3
            go_wp2
            go_ret
            exact HY.out
end
end Go.Proofs.YtegcbjkikhheiaaGreatDoor
namespace Go.Proofs.YtegcbjkikhheiaaGreatDoor
open Go.RowKit
abbrev thr (E : Int) : Ending := .panicked [{ v := .iface 102 (.int .i64 E), recovered := false }]
def endN (E : Int) : Ending := if E = 0 then .returned (.tuple #[]) else thr E
theorem endN_zero : endN 0 = .returned (.tuple #[]) := rfl
theorem endN_not {E : Int} (h : E ≠ 0) : endN E = thr E := if_neg h
set_option maxRecDepth 100000 in
theorem need_yes (E : Int) (w : World) : Calls Tryz.prog 48 #[.bool true, .int .i64 E] w fun e w' => e = .returned (.tuple #[]) ∧ w = w' := by
  go_enter Tryz.func48, Tryz.ntmps48
  go_wp2
  go_end0
  exact ⟨rfl, rfl⟩
set_option maxRecDepth 100000 in
theorem need_no (E : Int) (w : World) : Calls Tryz.prog 48 #[.bool false, .int .i64 E] w fun e w' => e = thr E ∧ w = w' := by
  go_enter Tryz.func48, Tryz.ntmps48
  go_wp2
  exact ⟨rfl, rfl, rfl⟩
set_option maxRecDepth 100000 in
theorem must_yes (w : World) : Calls Tryz.prog 44 #[.int .i64 0] w fun e w' => e = .returned (.tuple #[]) ∧ w = w' := by
  go_enter Tryz.func44, Tryz.ntmps44
  go_wp2
  go_end0
  exact ⟨rfl, rfl⟩
set_option maxRecDepth 100000 in
theorem must_no (E : Int) (hE : E ≠ 0) (w : World) : Calls Tryz.prog 44 #[.int .i64 E] w fun e w' => e = thr E ∧ w = w' := by
  have d : (E != 0) = true := by simpa using hE
  clear hE
  go_enter Tryz.func44, Tryz.ntmps44
  go_wp2
  exact ⟨rfl, rfl, rfl⟩
theorem run_wrong (x : Value) (w : World) : (Instr.typeAssert (.iface 102 x) 20 102 true).run Tryz.prog w = .ok (.tuple #[x, .bool true]) w := by
  simp only [Instr.typeAssert, Sem.run_bind, run_underlying Tryz.underlying102, Result.andThen_ok]
  rfl
set_option maxRecDepth 100000 in
theorem recov_idle (p : Addr) (w : World) :
    CallsD Tryz.prog 72 #[.pointer (some p)] .returning w fun e u' w' => e = .returned (.tuple #[]) ∧ u' = .returning ∧ w' = w := by
  refine callsD_of_wpS Tryz.func72 rfl fun c₀ cs hu => ?_
  simp only [Tryz.ntmps72, List.size_toArray, List.length_cons, List.length_nil, Nat.reduceAdd, Nat.reduceSub, Array.replicate_succ, Array.replicate_zero, List.push_toArray, List.append_toArray, List.nil_append, List.cons_append]
  apply wpS_seq
  apply wpS_region
  simp [wpOpsS, go_sem, recoverD, hu, Exit.thenS]
  refine wpS_of_wp ?_
  go_wp2
  cases c₀
  simp_all [bodyPostS, results, Tryz.results72]
set_option maxRecDepth 100000 in
theorem recov_wrong (p : Addr) (x E : Int) (w : World) (hc : w.cell? p = some (.int .i64 x)) (hz : w.frozen? p = false) :
    CallsD Tryz.prog 72 #[.pointer (some p)] (.panicking [{ v := .iface 102 (.int .i64 E), recovered := false }]) w fun e u' w' =>
      e = .returned (.tuple #[]) ∧ u' = .panicking [{ v := .iface 102 (.int .i64 E), recovered := true }] ∧ w' = w.setCell p (.int .i64 E) := by
  have hta := run_wrong
  refine callsD_of_wpS Tryz.func72 rfl fun c₀ cs hu => ?_
  simp only [Tryz.ntmps72, List.size_toArray, List.length_cons, List.length_nil, Nat.reduceAdd, Nat.reduceSub, Array.replicate_succ, Array.replicate_zero, List.push_toArray, List.append_toArray, List.nil_append, List.cons_append]
  apply wpS_seq
  apply wpS_region
  simp [wpOpsS, go_sem, recoverD, hu, Exit.thenS]
  refine wpS_of_wp ?_
  go_wp2
  simp [bodyPostS, results, Tryz.results72]
set_option maxRecDepth 100000 in
theorem caught_any (f : FuncId) (caps : Array Value) (w : World) (R : Int → World → Prop)
    (hin : ∀ args w', (callFunc f args).run Tryz.prog w' = .ok (.enter f args) w')
    (h : Calls Tryz.prog f caps (w.alloc (.cells #[.int .i64 0] 30)) (fun e w' => ∃ E : Int, e = endN E ∧ R E w' ∧ Blk w' w.heap.size 30 #[.int .i64 0])) :
    Calls Tryz.prog 39 #[.func (.func f) #[] caps] w (fun e w' => ∃ (E : Int) (w1 : World), e = .returned (.int .i64 E) ∧ R E w1 ∧ Blk w1 w.heap.size 30 #[.int .i64 0] ∧ w' = w1.setCell ⟨w.heap.size, 0, none⟩ (.int .i64 E)) := by
  have hmf : ∀ (fn : Fn) (first cap : Array Value) (w : World), (Instr.makeFunc fn first cap).run Tryz.prog w = .ok (.func fn first cap) w := fun _ _ _ _ => rfl
  have H := Lib.hid h
  clear h
  go_enter_defers Tryz.func39, Tryz.ntmps39
  go_wp2_with fail
  with_reducible refine H.out.mono ?_
  rintro e w1 ⟨E, rfl, hR, hB⟩
  have HB := Lib.hid hB
  have HR := Lib.hid hR
  have c0 := hB.cell 0
  have f0 := hB.frozen 0
  clear hR hB
  by_cases hE : E = 0
  · subst hE
    rw [endN_zero]
    go_wp2
    refine leaves_cons (f := 72) (args := #[.pointer (some ⟨w.heap.size, 0, none⟩)]) (by simp) (by simp [go_sem]) ?_
    refine (recov_idle ⟨w.heap.size, 0, none⟩ _).mono ?_
    rintro e u' w'' ⟨rfl, rfl, rfl⟩
    have hs := (HB.out.set_ 0 (.int .i64 0)).cell 0
    simp only [List.setIfInBounds_toArray, List.set_cons_zero] at hs
    simp [Leaves, settle, results, Tryz.results39, go_sem, hs]
    exact ⟨w1, HR.out, HB.out, rfl⟩
  · rw [endN_not hE]
    clear hE
    go_wp2
    refine leaves_cons (f := 72) (args := #[.pointer (some ⟨w.heap.size, 0, none⟩)]) (by simp) (by simp [go_sem]) ?_
    refine (recov_wrong ⟨w.heap.size, 0, none⟩ 0 E _ c0 f0).mono ?_
    rintro e u' w'' ⟨rfl, rfl, rfl⟩
    have hs := (HB.out.set_ 0 (.int .i64 E)).cell 0
    simp only [List.setIfInBounds_toArray, List.set_cons_zero] at hs
    simp [Leaves, settle, results, Tryz.results39, go_sem, hs]
    exact ⟨w1, HR.out, HB.out, rfl⟩
end Go.Proofs.YtegcbjkikhheiaaGreatDoor
namespace Go.Proofs.YtegcbjkikhheiaaGreatDoor
open Go.RowKit
set_option maxRecDepth 100000 in
set_option maxHeartbeats 1000000 in
theorem rowc1_any (g : Nat) (A : Option Addr) (n c : Nat) (cs : List Co) (k : Nat) (u : Bool) (x : Int) (s : ByteArray) (co : Co) (w : World) (hg : w.cell? ⟨g, 0, none⟩ = some (.slice A n c)) (hgl : g < w.heap.size) (hr : Reads w w.heap.size 7 A n (cos cs)) (hk : k < n) (hco : cs[k]? = some co) (hT : Tabs w) :
    Calls Tryz.prog 114 #[.int .i64 (k : Int), .agg #[.bool u, .int .i64 x, .string s], .pointer (some ⟨g, 0, none⟩)] w fun e w' => e = .returned (.int .i64 (checkE co.2.2.1 co.2.2.2.1 (u, x, s))) ∧ Below w.heap.size w w' := by
  obtain ⟨ad, c', rfl, hb, hc', hat⟩ := cos_at hr hk
  rw [hco] at hc'
  cases hc'
  have HT := Lib.hid hT
  have hk2 : (k : Int) < (n : Int) := by omega
  have hbl : (ad.add (k * 7)).block < w.heap.size := by rw [block_of_add]; exact hb
  obtain ⟨W, hW⟩ : ∃ W, W = w.alloc (.cells #[.bool u, .int .i64 x, .string s] 53) := ⟨_, rfl⟩
  have hb1 : Below w.heap.size w W := by rw [hW]; exact (Below.refl w.heap.size w).alloc (Nat.le_refl _) _
  have HX := Lib.hid (show Blk W w.heap.size 53 #[.bool u, .int .i64 x, .string s] by rw [hW]; exact Blk.new w _ _)
  have hat := hat.on hb1 hbl
  have hbl := Nat.lt_of_lt_of_le hbl hb1.size
  have hg := (hb1.cell (p := ⟨g, 0, none⟩) hgl).trans hg
  have hgl := Nat.lt_of_lt_of_le hgl hb1.size
  have HG := Lib.hid (show ∀ w', Below W.heap.size W w' → w'.cell? ⟨g, 0, none⟩ = some (.slice (some ad) n c) from fun w' h => (h.cell (p := ⟨g, 0, none⟩) hgl).trans hg)
  have H2 := Lib.hid (show ∀ w', Below W.heap.size W w' → w'.cell? ⟨(ad.add (k * 7)).block, (ad.add (k * 7)).off + 2, none⟩ = some (.int .i64 co.2.2.1) from fun w' h => (hat.on h hbl).c2)
  have H3 := Lib.hid (show ∀ w', Below W.heap.size W w' → w'.cell? ⟨(ad.add (k * 7)).block, (ad.add (k * 7)).off + 2 + 1, none⟩ = some (.bool co.2.2.2.1) from fun w' h => (hat.on h hbl).c3)
  have X0 := Lib.hid (show ∀ w', Below W.heap.size W w' → w'.cell? ⟨w.heap.size, 0, none⟩ = some (.bool u) from fun w' h => (HX.out.on h).cell 0)
  have X1 := Lib.hid (show ∀ w', Below W.heap.size W w' → w'.cell? ⟨w.heap.size, 1, none⟩ = some (.int .i64 x) from fun w' h => (HX.out.on h).cell 1)
  have X2 := Lib.hid (show ∀ w', Below W.heap.size W w' → w'.cell? ⟨w.heap.size, 2, none⟩ = some (.string s) from fun w' h => (HX.out.on h).cell 2)
  have Hb1 := Lib.hid hb1
  have HTW := Lib.hid (HT.out.on hb1)
  have HW := Lib.hid hW
  clear hr hco hb hat hT hg hgl hbl hb1 hW HX
  generalize hk7 : ad.add (k * 7) = ak at *
  go_enter Tryz.func114, Tryz.ntmps114
  go_wp2
  rw [← HW.out]
  have hS : Below W.heap.size W W.drew := (Below.refl _ _).drew
  refine wp_region_keep (fun w' => Below W.heap.size W w') [(0, false), (1, false), (2, false), (3, false), (4, false), (5, false), (6, true), (7, false)] (by kernel_rfl) (by kernel_rfl) (by kernel_rfl) (fun d _ _ _ _ h => by cases d <;> exact h) ?_
  refine held_pure (v := ?_) rfl rfl (by simp [Region.wanted, yielded]) hS ?_ ?_
  rotate_left
  · intro w hw; have c0 := HG.out w hw; clear hw; go_simp; try with_reducible rfl
  try simp only [Act.put, List.setIfInBounds_toArray, List.set_cons_succ, List.set_cons_zero]
  iterate 3
    refine held_pure (v := ?_) rfl rfl (by simp [Region.wanted, yielded]) hS ?_ ?_
    rotate_left
    · intro w hw; go_simp; try with_reducible rfl
    try simp only [Act.put, List.setIfInBounds_toArray, List.set_cons_succ, List.set_cons_zero]
  refine held_pure (v := ?_) rfl rfl (by simp [Region.wanted, yielded]) hS ?_ ?_
  rotate_left
  · intro w hw; have c0 := H2.out w hw; have c1 := H3.out w hw; clear hw; go_simp; try with_reducible rfl
  try simp only [Act.put, List.setIfInBounds_toArray, List.set_cons_succ, List.set_cons_zero]
  refine held_pure (v := ?_) rfl rfl (by simp [Region.wanted, yielded]) hS ?_ ?_
  rotate_left
  · intro w hw; have c0 := X0.out w hw; have c1 := X1.out w hw; have c2 := X2.out w hw; clear hw; go_simp; try with_reducible rfl
  try simp only [Act.put, List.setIfInBounds_toArray, List.set_cons_succ, List.set_cons_zero]
  refine held_eff1 rfl (by simp [Region.wanted, yielded]) fun K hK => ?_
  go_simp
  with_reducible refine (check_any3 co.2.2.1 co.2.2.2.1 u x s _ (HTW.out.on hS)).mono ?_
  rintro e w5 ⟨rfl, hb5⟩
  refine held_go hK (by exact bon hS hb5) fun hS => ?_
  clear hK K
  try simp only [Act.put, List.setIfInBounds_toArray, List.set_cons_succ, List.set_cons_zero]
  clear hb5
  refine held_pure (v := ?_) rfl rfl (by simp [Region.wanted, yielded]) hS ?_ ?_
  rotate_left
  · intro w hw; go_simp; try with_reducible rfl
  try simp only [Act.put, List.setIfInBounds_toArray, List.set_cons_succ, List.set_cons_zero]
  refine held_end ?_
  have HB := Lib.hid (bon Hb1.out hS)
  clear hS
  go_wp2
  go_ret
  exact ⟨rfl, HB.out⟩
theorem cellsE_drop (cs : List Co) (r : List Cl) (k : Nat) (co : Co) (x : Cl) (h1 : cs[k]? = some co) (h2 : r[k]? = some x) :
    cellsE (cs.drop k) (r.drop k) = if checkE co.2.2.1 co.2.2.2.1 x = 0 then cellsE (cs.drop (k + 1)) (r.drop (k + 1)) else checkE co.2.2.1 co.2.2.2.1 x := by
  obtain ⟨g1, rfl⟩ := List.getElem?_eq_some_iff.1 h1
  obtain ⟨g2, rfl⟩ := List.getElem?_eq_some_iff.1 h2
  rw [List.drop_eq_getElem_cons g1, List.drop_eq_getElem_cons g2, cellsE]
theorem cellsE_end (cs : List Co) (r : List Cl) : cellsE (cs.drop r.length) (r.drop r.length) = 0 := by
  rw [List.drop_length]
  cases cs.drop r.length <;> rfl
set_option maxRecDepth 100000 in
set_option maxHeartbeats 1000000 in
theorem rowfirst_any (g : Nat) (A : Option Addr) (n c : Nat) (cs : List Co) (B : Option Addr) (d : Nat) (r : List Cl) (w : World) (hg : w.cell? ⟨g, 0, none⟩ = some (.slice A n c)) (hgl : g < w.heap.size) (hr : Reads w w.heap.size 7 A n (cos cs)) (hr2 : Reads w w.heap.size 3 B n (cls r)) (hm : n ≤ maxLen) (hT : Tabs w) :
    Calls Tryz.prog 113 #[.slice B n d, .func (.func 114) #[] #[.pointer (some ⟨g, 0, none⟩)]] w fun e w' => e = .returned (.int .i64 (cellsE cs r)) ∧ Below w.heap.size w w' := by
  have HT := Lib.hid hT
  have Hr := Lib.hid hr
  have Hr2 := Lib.hid hr2
  have HG := Lib.hid hg
  have Hlc := Lib.hid (cos_len hr)
  have Hlr := Lib.hid (cls_len hr2)
  have hm63 : n ≤ 9223372036854775807 := by simp only [maxLen] at hm; omega
  clear hT hr hr2 hg hm
  go_enter Tryz.func113, Tryz.ntmps113
  go_wp2
  go_loopw [10] (fun i wr => ∃ k : Nat, k ≤ n ∧ i = .int .i64 (k : Int) ∧ Hid (cellsE cs r = cellsE (cs.drop k) (r.drop k)) ∧ Hid (Below w.heap.size w wr)) (fun i _ => n - (intOf i).toNat)
  case atStart => exact ⟨0, Nat.zero_le _, rfl, Lib.hid rfl, Lib.hid (Below.refl _ _)⟩
  case round =>
    obtain ⟨k, hk, rfl, HE, HB⟩ := hrel
    by_cases hlt : k < n
    · obtain ⟨ad, u, x, s, rfl, hbk, hx, h0, h1, h2⟩ := cls_at (Hr2.out.below HB.out) hlt
      have hkc : k < cs.length := by rw [Hlc.out]; omega
      have hco := List.getElem?_eq_getElem hkc
      have HD := Lib.hid (cellsE_drop cs r k cs[k] (u, x, s) hco hx)
      have Hco := Lib.hid hco
      have hb1 := bal HB.out (.cells #[.bool u, .int .i64 x, .string s] 53)
      have HB1 := Lib.hid hb1
      generalize cs[k] = co at HD Hco
      clear hx hbk hco hb1
      go_wp2_with fail
      with_reducible refine (rowc1_any g A n c cs k u x s co _ ((HB1.out.cell (p := ⟨g, 0, none⟩) hgl).trans HG.out) (Nat.lt_of_lt_of_le hgl HB1.out.size) (Hr.out.on HB1.out) hlt Hco.out (HT.out.on HB1.out)).mono ?_
      rintro e w1 ⟨rfl, hb1⟩
      have HB2 := Lib.hid (bon HB1.out hb1)
      clear hb1
      by_cases hz : checkE co.2.2.1 co.2.2.2.1 (u, x, s) = 0
      · have HE2 := Lib.hid (show cellsE cs r = cellsE (cs.drop (k + 1)) (r.drop (k + 1)) by rw [HE.out, HD.out, if_pos hz])
        generalize checkE co.2.2.1 co.2.2.2.1 (u, x, s) = E0 at hz ⊢
        subst hz
        go_wp2
        go_roundw
        case rel => exact ⟨k + 1, by omega, by go_num, HE2, HB2⟩
        case measure => simp [intOf]; omega
      · have HE2 := Lib.hid (show checkE co.2.2.1 co.2.2.2.1 (u, x, s) = cellsE cs r by rw [HE.out, HD.out, if_neg hz])
        rw [HE2.out] at hz ⊢
        have hzb : (cellsE cs r != 0) = true := by simpa using hz
        clear hz
        go_wp2
        go_ret
        exact ⟨rfl, HB2.out⟩
    · obtain rfl : k = n := by omega
      have HE2 := Lib.hid (show cellsE cs r = 0 by rw [HE.out]; have := cellsE_end cs r; rw [Hlr.out] at this; exact this)
      go_wp2
      go_ret
      rw [HE2.out]
      exact ⟨rfl, HB.out⟩
set_option maxRecDepth 100000 in
theorem prow_any (A : Option Addr) (n c : Nat) (cs : List Co) (B : Option Addr) (m d : Nat) (r : List Cl) (w : World) (hr : Reads w w.heap.size 7 A n (cos cs)) (hr2 : Reads w w.heap.size 3 B m (cls r)) (hm : m ≤ maxLen) (hT : Tabs w) :
    Calls Tryz.prog 73 #[.slice A n c, .slice B m d] w fun e w' => e = .returned (.int .i64 (rowE cs r)) ∧ Below w.heap.size w w' := by
  have hlc := cos_len hr
  have hlr := cls_len hr2
  have HT := Lib.hid hT
  have Hr := Lib.hid hr
  have Hr2 := Lib.hid hr2
  have Hb := Lib.hid (bal (Below.refl w.heap.size w) (.cells #[.slice A n c] 22))
  have HK := Lib.hid ((Blk.new w 22 #[.slice A n c]).cell 0)
  clear hr hr2 hT
  by_cases hmn : m = n
  · have HE := Lib.hid (show rowE cs r = cellsE cs r by unfold rowE; rw [if_pos (by omega)])
    subst hmn
    have db : ((m : Int) != (m : Int)) = false := by simp
    clear hlc hlr
    go_enter Tryz.func73, Tryz.ntmps73
    go_wp2_with fail
    with_reducible refine (rowfirst_any w.heap.size A m c cs B d r _ HK.out (by simp) (Hr.out.on Hb.out) (Hr2.out.on Hb.out) hm (HT.out.on Hb.out)).mono ?_
    rintro e w1 ⟨rfl, hb1⟩
    have HB := Lib.hid (bon Hb.out hb1)
    clear hb1
    go_wp2
    go_ret
    rw [HE.out]
    exact ⟨rfl, HB.out⟩
  · have HE := Lib.hid (show rowE cs r = 100 by unfold rowE; rw [if_neg (by omega)])
    have db : ((n : Int) != (m : Int)) = true := by simp; omega
    clear hlc hlr
    go_enter Tryz.func73, Tryz.ntmps73
    go_wp2
    go_ret
    rw [HE.out]
    exact ⟨rfl, Hb.out⟩
end Go.Proofs.YtegcbjkikhheiaaGreatDoor
