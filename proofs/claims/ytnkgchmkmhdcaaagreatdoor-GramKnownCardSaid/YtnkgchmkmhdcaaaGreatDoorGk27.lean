/- Part 27 of the walks, merged: each text under its own heading. Conditions: none of its own; each lemma states what it asks. -/
import Derived.Test.YtnkgchmkmhdcaaaGreatDoorGk16
import Derived.Test.YtnkgchmkmhdcaaaGreatDoorGk17
import Derived.Test.YtnkgchmkmhdcaaaGreatDoorGk18
import Derived.Test.YtnkgchmkmhdcaaaGreatDoorGk24
import Derived.Test.YtnkgchmkmhdcaaaGreatDoorGk26
set_option linter.unusedVariables false
set_option linter.unusedSimpArgs false
namespace Go.Proofs.YtnkgchmkmhdcaaaGreatDoor
open Go.RowKit
theorem own_kept2 {w w' : World} {base size n : Nat} {e : TypeId} {v v2 : Value} {xs : List Value} (h : w.ownsRow base e size v n xs) (hne : ∀ k, v.ownBlock = some k → v2.ownBlock ≠ some k) (hg : w.grownBy w' v2.ownBlock) : w'.ownsRow base e size v n xs := by
 refine h.kept hg ?_
 by_cases hn : v.ownBlock = none
 ·exact .inl hn
 ·right
  intro e
  obtain ⟨k, hk⟩ := Option.ne_none_iff_exists'.1 hn
  exact hne k hk (by rw [← e, hk])
section
variable {P : Program} {w : World}
theorem wpList_append_row {ops : Array Oper} {rest : List Oper} {o : Oper} {a : Act} {Q : Exit → Act → World → Prop} (hgd : o.guard = none) (s x : Operand) (t : TypeId)
  (ho : o.op = .call { callee := .builtin .append, args := #[s, x], argTypes := #[t, t] })
  (base : Nat) (e : TypeId) (i : TypeInfo) (z : Value) (size bytes : Nat) (ht : P.underlying t = some (.slice e)) (hi : P.info? e = some i) (hz : i.zero = some z)
  (hsize : i.size = size) (hby : i.bytes = bytes) (hzs : z.cells.size = size) (hsz : 0 < size)
  (A0 : Option Addr) (n c0 : Nat) (xs : List Value) (hs : a.eval s = .slice A0 n c0) (hown : w.ownsRow base e size (.slice A0 n c0) n xs)
  (A : Option Addr) (m c : Nat) (news : List Value) (hx : a.eval x = .slice A m c) (hr : Reads w w.heap.size size A m news) (h1 : ∀ u ∈ news, u.oneCell' = true)
  (h63 : n + m ≤ maxLen) (hbytes : (n + m) * bytes ≤ 70368744177664) (hbase : base ≤ w.heap.size)
  (h : ∀ A' c' w', w'.ownsRow base e size (.slice A' (n + m) c') (n + m) (xs ++ news) → w.grownBy w' (Value.slice A0 n c0).ownBlock → ((Value.slice A' (n + m) c').ownBlock = (Value.slice A0 n c0).ownBlock ∨ (Value.slice A' (n + m) c').ownBlock = some w.heap.size) → wpList P ops Q rest (a.put o.dst (.slice A' (n + m) c')) w') : wpList P ops Q (o :: rest) a w :=
 wpList_plain hgd fun K hK => by
  obtain ⟨v', w', hrun, h2, h3, h5⟩ := run_append_any (P := P) w base t o.type e i z size bytes ht hi hz hsize hby hzs hsz _ n xs hown _ A m c news hr h1 h63 (by omega) hbase
  obtain ⟨A', c', rfl, hl1, hl2⟩ := own_shape h2
  unfold Oper.wp execOp
  simp only [ho, resolve, invoke, builtin, Sem.run_bind, Sem.run_pure, Result.andThen_ok, List.map_toArray, List.map_cons, List.map_nil, hs, hx, hrun]
  exact hK _ _ (h A' c' w' h2 h3 h5)
end
def ApR (v v2 : Value) : Prop := ∀ k, v.ownBlock = some k → v2.ownBlock ≠ some k
theorem ApR.symm {v v2 : Value} (h : ApR v v2) : ApR v2 v := fun k h1 h2 => h k h2 h1
theorem ApR.app {w : World} {base size n : Nat} {e : TypeId} {v v2 v3 : Value} {xs : List Value} (h : ApR v v2) (ho : w.ownsRow base e size v n xs) (h3 : v3.ownBlock = v2.ownBlock ∨ v3.ownBlock = some w.heap.size) : ApR v v3 := by
 intro k hk
 rcases h3 with h3 | h3
 ·rw [h3]; exact h k hk
 ·rw [h3]
  intro e
  injection e with e
  have := (ho.lt k hk).2
  omega
theorem ApR.nil (v : Value) : ApR (.slice none 0 0) v := fun k hk => by simp [Value.ownBlock] at hk
structure GatK (w : World) (kd : Int) (nl : Bool) (v8 v9 v10 : Value) (n8 n9 n10 : Nat) (l8 l9 : List Bool) (l10 : List Cl) (wr : World) : Prop where
 below : Below w.heap.size w wr
 o8 : wr.ownsRow w.heap.size 4 1 v8 n8 (bls l8)
 o9 : wr.ownsRow w.heap.size 4 1 v9 n9 (bls l9)
 o10 : wr.ownsRow w.heap.size 23 3 v10 n10 (cls l10)
 ap : ApR v8 v9
 box : Blk wr w.heap.size 43 #[.int .i64 kd, .bool nl]
section
variable {w wr w' : World} {kd : Int} {nl b : Bool} {v8 v9 v10 v8' v9' v10' : Value} {n8 n9 n10 : Nat} {l8 l9 : List Bool} {l10 : List Cl} {c : Cl}
theorem GatK.on (h : GatK w kd nl v8 v9 v10 n8 n9 n10 l8 l9 l10 wr) (hb : Below wr.heap.size wr w') : GatK w kd nl v8 v9 v10 n8 n9 n10 l8 l9 l10 w' :=
 ⟨bon h.below hb, own_below h.o8 hb, own_below h.o9 hb, own_below h.o10 hb, h.ap, h.box.on hb⟩
theorem GatK.al (h : GatK w kd nl v8 v9 v10 n8 n9 n10 l8 l9 l10 wr) (o : Obj) : GatK w kd nl v8 v9 v10 n8 n9 n10 l8 l9 l10 (wr.alloc o) := h.on (bal (Below.refl _ _) o)
theorem GatK.app8 (h : GatK w kd nl v8 v9 v10 n8 n9 n10 l8 l9 l10 wr) (r1 : w'.ownsRow w.heap.size 4 1 v8' (n8 + 1) (bls l8 ++ [.bool b])) (r2 : wr.grownBy w' v8.ownBlock) (r3 : v8'.ownBlock = v8.ownBlock ∨ v8'.ownBlock = some wr.heap.size) :
  GatK w kd nl v8' v9 v10 (n8 + 1) n9 n10 (l8 ++ [b]) l9 l10 w' :=
 ⟨h.below.grown r2 h.below.size (fun k hk => (h.o8.lt k hk).1), by rw [bls_append]; exact r1, own_kept2 h.o9 h.ap.symm r2, own_apart h.o10 h.o8 (by decide) r2, (h.ap.symm.app h.o9 r3).symm, h.box.apart h.o8 (by decide) r2⟩
theorem GatK.app9 (h : GatK w kd nl v8 v9 v10 n8 n9 n10 l8 l9 l10 wr) (r1 : w'.ownsRow w.heap.size 4 1 v9' (n9 + 1) (bls l9 ++ [.bool b])) (r2 : wr.grownBy w' v9.ownBlock) (r3 : v9'.ownBlock = v9.ownBlock ∨ v9'.ownBlock = some wr.heap.size) :
  GatK w kd nl v8 v9' v10 n8 (n9 + 1) n10 l8 (l9 ++ [b]) l10 w' :=
 ⟨h.below.grown r2 h.below.size (fun k hk => (h.o9.lt k hk).1), own_kept2 h.o8 h.ap r2, by rw [bls_append]; exact r1, own_apart h.o10 h.o9 (by decide) r2, h.ap.app h.o8 r3, h.box.apart h.o9 (by decide) r2⟩
theorem GatK.app10 (h : GatK w kd nl v8 v9 v10 n8 n9 n10 l8 l9 l10 wr) (r1 : w'.ownsRow w.heap.size 23 3 v10' (n10 + 1) (cls l10 ++ cls [c])) (r2 : wr.grownBy w' v10.ownBlock) :
  GatK w kd nl v8 v9 v10' n8 n9 (n10 + 1) l8 l9 (l10 ++ [c]) w' :=
 ⟨h.below.grown r2 h.below.size (fun k hk => (h.o10.lt k hk).1), own_apart h.o8 h.o10 (by decide) r2, own_apart h.o9 h.o10 (by decide) r2, by rw [cls_append]; exact r1, h.ap, h.box.apart h.o10 (by decide) r2⟩
theorem blk_keep {g : Nat} {t : TypeId} {cs : Array Value} {r : Option Nat} (h : Blk wr g t cs) (hg : wr.grownBy w' r) (hne : r ≠ some g) : Blk w' g t cs := (hg.block g h.lt (fun e => hne e.symm)).trans h
end
structure HanK (w : World) (g : Nat) (X : Option Addr) (xn xc : Nat) (xs : List UInt8) (kd : Int) (nl : Bool) (v8 v9 v10 : Value) (n8 n9 n10 : Nat) (l8 l9 : List Bool) (l10 : List Cl) (b0 : Nat) (out : List UInt8) (wr : World) : Prop where
 wk : Wk wr g X xn xc xs out
 o8 : wr.ownsRow b0 4 1 v8 n8 (bls l8)
 o9 : wr.ownsRow b0 4 1 v9 n9 (bls l9)
 o10 : wr.ownsRow b0 23 3 v10 n10 (cls l10)
 box : Blk wr b0 43 #[.int .i64 kd, .bool nl]
 grown : w.grownBy wr (some g)
section
variable {w wr w' : World} {g b0 xn xc : Nat} {X : Option Addr} {xs out o2 : List UInt8} {kd : Int} {nl : Bool} {v8 v9 v10 : Value} {n8 n9 n10 : Nat} {l8 l9 : List Bool} {l10 : List Cl} {e : Ending}
theorem HanK.step (h : HanK w g X xn xc xs kd nl v8 v9 v10 n8 n9 n10 l8 l9 l10 b0 out wr) (hp : WalkP g X xn xc xs out o2 wr e w') : HanK w g X xn xc xs kd nl v8 v9 v10 n8 n9 n10 l8 l9 l10 b0 (out ++ o2) w' :=
 ⟨hp.2.1, own_grown h.o8 h.wk.blk (by decide) hp.2.2, own_grown h.o9 h.wk.blk (by decide) hp.2.2, own_grown h.o10 h.wk.blk (by decide) hp.2.2, h.box.other hp.2.2 (h.box.ne h.wk.blk (by decide)), grown_trans h.grown hp.2.2⟩
end
theorem colC_len (li : List It) (k : Nat) : (colC li k).length = li.length := by simp [colC]
theorem colC_at {li : List It} {k j : Nat} {it : It} {c : Cl} (h : li[j]? = some it) (hc : it.1[k]? = some c) : (colC li k)[j]? = some c := by simp [colC, h, hc]
set_option maxRecDepth 100000 in
set_option maxHeartbeats 8000000 in
theorem rcolumn_any (g : Nat) (X : Option Addr) (xn xc : Nat) (xs pre : List UInt8) (kd : Int) (nl : Bool) (I : Option Addr) (m d : Nat) (li : List It) (k : Nat) (w : World) (h : Wk w g X xn xc xs pre) (hi : ItemsAt w g I m li) (hm : m ≤ 1048576) (hrow : ∀ it ∈ li, k < it.1.length) (hrl : ∀ it ∈ li, it.1.length ≤ 1048576)
  (hkk : kd = 1 ∨ kd = 2 ∨ kd = 3 ∨ kd = 4 ∨ kd = 5) (hsz : ∀ s ∈ txc (someC (colC li k)), s.size ≤ 1048576) (hnum : ClOk (someC (colC li k))) (hl : pre.length + (putB kd nl (colC li k) []).length ≤ 4611686018300000000) :
  Calls Tryz.prog 194 #[.pointer (some ⟨g, 0, none⟩), .agg #[.int .i64 kd, .bool nl], .slice I m d, .int .i64 (k : Int)] w (WalkP g X xn xc xs pre (putB kd nl (colC li k) []) w) := by
 obtain ⟨b0, hb0, hb1, hb2, hb3⟩ := info_parts bool_info
 obtain ⟨j0, hj0, hk0, hj1, hk2⟩ := info_parts cell_info
 have hgl := h.blk.lt
 have Hcl := Lib.hid (show (colC li k).length = m by rw [colC_len]; exact hi.len)
 have HW := Lib.hid h
 have Hi := Lib.hid hi
 have Hrow := Lib.hid hrow
 have Hrl := Lib.hid hrl
 have Hsz0 := Lib.hid hsz
 have Hnum0 := Lib.hid hnum
 have Hbd := Lib.hid hl
 have HG := Lib.hid (show GatK w kd nl (.slice none 0 0) (.slice none 0 0) (.slice none 0 0) 0 0 0 [] [] [] (w.alloc (.cells #[.int .i64 kd, .bool nl] 43)) from
  ⟨bal (Below.refl _ _) _, World.ownsRow_nil _ _ _ _, World.ownsRow_nil _ _ _ _, World.ownsRow_nil _ _ _ _, ApR.nil _, Blk.new _ _ _⟩)
 have hk64 : (k : Int) ≤ 9223372036854775807 ∨ m = 0 := by
  rcases Nat.eq_zero_or_pos m with h0 | h0
  ·exact .inr h0
  ·left
   obtain ⟨it, hit⟩ : ∃ it, li[0]? = some it := ⟨_, List.getElem?_eq_getElem (by rw [hi.len]; exact h0)⟩
   have := hrow it (List.mem_of_getElem? hit)
   have := hrl it (List.mem_of_getElem? hit)
   omega
 have Hk64 := Lib.hid hk64
 clear h hi hrow hrl hsz hnum hl hk64
 go_enter Tryz.func194, Tryz.ntmps194
 go_wp2
 go_loopw [8, 9, 10, 11] (fun v8 v9 v10 v11 wr => ∃ (j : Nat) (A8 : Option Addr) (c8 : Nat) (A9 : Option Addr) (n9 c9 : Nat) (A10 : Option Addr) (c10 : Nat), j ≤ m ∧ n9 ≤ j ∧ v8 = .slice A8 j c8 ∧ v9 = .slice A9 n9 c9 ∧ v10 = .slice A10 n9 c10 ∧ v11 = .int .i64 (j : Int) ∧
  Hid (GatK w kd nl (.slice A8 j c8) (.slice A9 n9 c9) (.slice A10 n9 c10) j n9 n9 (((colC li k).take j).map fun c => !c.1) ((someC ((colC li k).take j)).map fun c => c.2.1 == 1) (someC ((colC li k).take j)) wr)) (fun _ _ _ v11 _ => m - (intOf v11).toNat)
 case atStart => exact ⟨0, none, 0, none, 0, 0, none, 0, Nat.zero_le _, Nat.le_refl _, rfl, rfl, rfl, rfl, Lib.hid (by simpa [someC] using HG.out)⟩
 case round =>
  clear HG
  obtain ⟨j, A8, c8, A9, n9, c9, A10, c10, hj, hnj, rfl, rfl, rfl, rfl, HG⟩ := hrel
  by_cases hjm : j < m
  ·have d1 : decide ((j : Int) < (m : Int)) = true := by simp; omega
   have e1 : (j : Int) < (m : Int) := by omega
   have hiw := Hi.out.below (HG.out.below.mono (Nat.le_of_lt hgl))
   obtain ⟨ad, A', c', it, rfl, -, hit, h0, -, hrow, hc1, hc2⟩ := hiw.at_ hjm
   have hkr := Hrow.out it (List.mem_of_getElem? hit)
   have e2 : (k : Int) < (it.1.length : Int) := by omega
   have hrl := Hrl.out it (List.mem_of_getElem? hit)
   obtain ⟨ad2, u, x, s, rfl, -, hx, g0, g1, g2⟩ := cls_at hrow hkr
   have hcj := colC_at hit hx
   have Hmp := Lib.hid (show ((colC li k).take (j + 1)).map (fun c => !c.1) = ((colC li k).take j).map (fun c => !c.1) ++ [!u] by rw [List.take_add_one, hcj]; simp)
   have Hstep := Lib.hid (someC_step hcj)
   have hs1 : j + 1 ≤ maxLen := by simp only [maxLen]; omega
   have hs2 : (j + 1) * 1 ≤ 70368744177664 := by omega
   have hs3 : n9 + 1 ≤ maxLen := by simp only [maxLen]; omega
   have hs4 : (n9 + 1) * 32 ≤ 70368744177664 := by omega
   have hs5 : (n9 + 1) * 1 ≤ 70368744177664 := by omega
   generalize it.1.length = rl at *
   clear hit hrow hx hcj hiw
   have CB := Lib.hid (Blk.new wr 23 #[.bool u, .int .i64 x, .string s])
   have HGa := Lib.hid (HG.out.al (.cells #[.bool u, .int .i64 x, .string s] 23))
   have hlt10 := fun q hq => (HG.out.o10.lt q hq).2
   have Hlt10 := Lib.hid hlt10
   obtain ⟨bx, hbx⟩ : ∃ bx, wr.heap.size = bx := ⟨_, rfl⟩
   rw [hbx] at CB Hlt10
   have Hbx := Lib.hid hbx
   have HW1 : (wr.alloc (.cells #[.bool u, .int .i64 x, .string s] 23)).heap.size = bx + 1 := by simp [hbx]
   have HWz := Lib.hid HW1
   clear hlt10 HW1
   have y0 := CB.out.cell 0
   cases u with
   | true =>
    have Hst := Lib.hid (show someC ((colC li k).take (j + 1)) = someC ((colC li k).take j) by rw [Hstep.out]; rfl)
    have Hmq := Lib.hid (show ((colC li k).take (j + 1)).map (fun c => !c.1) = ((colC li k).take j).map (fun c => !c.1) ++ [false] from Hmp.out)
    go_wp2_with (at_builtin
                 (refine wpList_append_row rfl (.tmp 28) (.tmp 32) 150 rfl w.heap.size 4 b0 (.bool false) 1 1 Tryz.underlying150 hb0 hb1 hb2 hb3 rfl (by decide) A8 j c8 _ rfl (HGa.out.al (.cells #[.bool false] 4)).o8 (some ⟨_, 0, none⟩) 1 1 [.bool false] rfl (by exact reads_new_at _ _ _ _ (by first | rfl | exact HWz.out.symm | simp [Hbx.out])) (one_bool _) hs1 hs2 (HGa.out.al (.cells #[.bool false] 4)).below.size ?_
                  intro A1 c1 w8 r1 r2 r3
                  have HG8 := Lib.hid ((HGa.out.al (.cells #[.bool false] 4)).app8 r1 r2 r3)
                  have CB8 := Lib.hid ((CB.out.alloc (.cells #[.bool false] 4)).apart (HGa.out.al (.cells #[.bool false] 4)).o8 (by decide) r2)
                  have y0 := CB8.out.cell 0
                  clear r1 r2 r3))
    go_roundw
    case rel => exact ⟨j + 1, A1, c1, A9, n9, c9, A10, c10, hjm, by omega, rfl, rfl, rfl, by go_num, Lib.hid (by rw [Hmq.out, Hst.out]; exact HG8.out)⟩
    case measure => simp [intOf]; omega
   | false =>
    have Hst := Lib.hid (show someC ((colC li k).take (j + 1)) = someC ((colC li k).take j) ++ [(false, x, s)] by rw [Hstep.out]; rfl)
    have Hmq := Lib.hid (show ((colC li k).take (j + 1)).map (fun c => !c.1) = ((colC li k).take j).map (fun c => !c.1) ++ [true] from Hmp.out)
    go_wp2_with (at_builtin
                 first
                 | (refine wpList_append_row rfl (.tmp 28) (.tmp 32) 150 rfl w.heap.size 4 b0 (.bool false) 1 1 Tryz.underlying150 hb0 hb1 hb2 hb3 rfl (by decide) A8 j c8 _ rfl (HGa.out.al (.cells #[.bool true] 4)).o8 (some ⟨_, 0, none⟩) 1 1 [.bool true] rfl (by exact reads_new_at _ _ _ _ (by first | rfl | exact HWz.out.symm | simp [Hbx.out])) (one_bool _) hs1 hs2 (HGa.out.al (.cells #[.bool true] 4)).below.size ?_
                    intro A1 c1 w8 r1 r2 r3
                    have HG8 := Lib.hid ((HGa.out.al (.cells #[.bool true] 4)).app8 r1 r2 r3)
                    have CB8 := Lib.hid ((CB.out.alloc (.cells #[.bool true] 4)).apart (HGa.out.al (.cells #[.bool true] 4)).o8 (by decide) r2)
                    have y0 := CB8.out.cell 0
                    have y1 := CB8.out.cell 1
                    have y2 := CB8.out.cell 2
                    clear r1 r2 r3)
                 | (refine wpList_append_row rfl (.tmp 37) (.tmp 39) 24 rfl w.heap.size 23 j0 (.agg #[.bool false, .int .i64 0, .string ⟨#[]⟩]) 3 32 Tryz.underlying24 hj0 hk0 hj1 hk2 rfl (by decide) A10 n9 c10 _ rfl (HG8.out.al (.cells #[.bool false, .int .i64 x, .string s] 23)).o10 (some ⟨_, 0, none⟩) 1 1 (cls [(false, x, s)]) rfl (by exact reads_cellb _ _ (by simp) _ _ _) (cls_one _) hs3 hs4 (HG8.out.al (.cells #[.bool false, .int .i64 x, .string s] 23)).below.size ?_
                    intro A2 c2 w9 r1 r2 r3
                    have HG9 := Lib.hid ((HG8.out.al (.cells #[.bool false, .int .i64 x, .string s] 23)).app10 (c := (false, x, s)) r1 r2)
                    have CB9 := Lib.hid (blk_keep (CB8.out.alloc (.cells #[.bool false, .int .i64 x, .string s] 23)) r2 (fun e => absurd (Hlt10.out bx e) (Nat.lt_irrefl _)))
                    have z1 := CB9.out.cell 1
                    clear r1 r2 r3 y0 y1 y2)
                 | (refine wpList_append_row rfl (.tmp 41) (.tmp 45) 150 rfl w.heap.size 4 b0 (.bool false) 1 1 Tryz.underlying150 hb0 hb1 hb2 hb3 rfl (by decide) A9 n9 c9 _ rfl (HG9.out.al (.cells #[.bool (x == 1)] 4)).o9 (some ⟨_, 0, none⟩) 1 1 [.bool (x == 1)] rfl (by exact reads_new_at _ _ _ _ (by first | rfl | simp)) (one_bool _) hs3 hs5 (HG9.out.al (.cells #[.bool (x == 1)] 4)).below.size ?_
                    intro A3 c3 w10 r1 r2 r3
                    have HG10 := Lib.hid ((HG9.out.al (.cells #[.bool (x == 1)] 4)).app9 r1 r2 r3)
                    clear r1 r2 r3))
    go_roundw
    case rel => exact ⟨j + 1, A1, c1, A3, n9 + 1, c3, A2, c2, hjm, by omega, rfl, rfl, rfl, by go_num, Lib.hid (by rw [Hmq.out, Hst.out, List.map_append]; exact HG10.out)⟩
    case measure => simp [intOf]; omega
  ·obtain rfl : j = m := by omega
   have d1 : decide ((j : Int) < (j : Int)) = false := by simp
   rw [List.take_of_length_le (by rw [Hcl.out]; exact Nat.le_refl _)] at HG
   obtain ⟨l8, hl8⟩ : ∃ l8, (colC li k).map (fun c => !c.1) = l8 := ⟨_, rfl⟩
   obtain ⟨l9, hl9⟩ : ∃ l9, (someC (colC li k)).map (fun c => c.2.1 == 1) = l9 := ⟨_, rfl⟩
   obtain ⟨l10, hl10⟩ : ∃ l10, someC (colC li k) = l10 := ⟨_, rfl⟩
   rw [hl8, hl9, hl10] at HG
   have Hpb := Lib.hid (show putB kd nl (colC li k) [] = (if nl then packL l8 else []) ++ bareB kd (someC (colC li k)) by rw [← hl8]; simp [putB])
   have Hl9 := Lib.hid hl9.symm
   have Hl10 := Lib.hid hl10
   have Hsz := Lib.hid (show ∀ s ∈ txc l10, s.size ≤ 1048576 by rw [← hl10]; exact Hsz0.out)
   have Hnum := Lib.hid (show ClOk l10 by rw [← hl10]; exact Hnum0.out)
   have HN := Lib.hid (show HanK w g X xn xc xs kd nl (.slice A8 j c8) (.slice A9 n9 c9) (.slice A10 n9 c10) j n9 n9 l8 l9 l10 w.heap.size pre wr from
    ⟨HW.out.on HG.out.below, HG.out.o8, HG.out.o9, HG.out.o10, HG.out.box, grown_of_below HG.out.below⟩)
   clear hl8 hl9 hl10 HG Hi Hrow Hrl Hsz0 Hnum0 d1
   have d1 : decide ((j : Int) < (j : Int)) = false := by simp
   have t1 := HN.out.box.cell 1
   cases nl with
   | true =>
    have hpk := packL_le l8
    have hl8 : l8.length ≤ j := by have := blen (own_reads HN.out.o8); omega
    replace Hpb := Lib.hid (show putB kd true (colC li k) [] = packL l8 ++ bareB kd (someC (colC li k)) from Hpb.out)
    have hbd := Hbd.out
    rw [Hpb.out] at hbd
    go_wp2_with fail
    with_reducible refine (rmask_any g X xn xc xs pre A8 j c8 w.heap.size l8 _ HN.out.wk HN.out.o8 (by omega) (by rw [List.length_append] at hbd; omega)).mono ?_
    intro e w2 hp
    obtain rfl := hp.1
    replace HN := Lib.hid (HN.out.step hp)
    clear hp t1 hbd hpk hl8
    generalize packL l8 = o1 at *
    rcases hkk with rfl | rfl | rfl | rfl | rfl
    ·have t0 := HN.out.box.cell 0
     have Hput := Lib.hid (show putB 1 true (colC li k) [] = o1 ++ packL l9 by rw [Hpb.out, Hl9.out]; rfl)
     have hbd := Hbd.out
     rw [Hput.out] at hbd
     have hpk := packL_le l9
     have hl9 : l9.length ≤ n9 := by have := blen (own_reads HN.out.o9); omega
     go_wp2_with fail
     with_reducible refine (rmask_any g X xn xc xs (pre ++ o1) A9 n9 c9 w.heap.size l9 _ HN.out.wk HN.out.o9 (by omega) (by rw [List.length_append]; rw [List.length_append] at hbd; omega)).mono ?_
     intro e w2 hp
     obtain rfl := hp.1
     have HN2 := HN.out.step hp
     rw [List.append_assoc] at HN2
     replace HN := Lib.hid HN2
     clear hp HN2 t0 hbd hpk hl9
     have t0 := HN.out.box.cell 0
     go_wp2
     clear t0
     go_loopw [13] (fun v wr => ∃ q : Nat, q ≤ n9 ∧ v = .int .i64 (q : Int) ∧ Hid (HanK w g X xn xc xs 1 true (.slice A8 j c8) (.slice A9 n9 c9) (.slice A10 n9 c10) j n9 n9 l8 l9 l10 w.heap.size (pre ++ (o1 ++ packL l9)) wr)) (fun v _ => n9 - (intOf v).toNat)
     case atStart => exact ⟨0, Nat.zero_le _, rfl, HN⟩
     case round =>
      clear HN
      obtain ⟨q, hq, rfl, HN⟩ := hrel
      have t0 := HN.out.box.cell 0
      by_cases hqn : q < n9
      ·have d1 : decide ((q : Int) < (n9 : Int)) = true := by simp; omega
       go_wp2
       go_roundw
       case rel => exact ⟨q + 1, hqn, by go_num, HN⟩
       case measure => simp [intOf]; omega
      ·have d1 : decide ((q : Int) < (n9 : Int)) = false := by simp; omega
       go_wp2
       go_end0
       exact ⟨rfl, by rw [Hput.out]; exact HN.out.wk, HN.out.grown⟩
    ·have t0 := HN.out.box.cell 0
     have Hput := Lib.hid (show putB 2 true (colC li k) [] = o1 ++ intsB l10 by rw [Hpb.out, ← Hl10.out]; rfl)
     go_wp2
     clear t0
     go_loopw [13] (fun v wr => ∃ q : Nat, q ≤ n9 ∧ v = .int .i64 (q : Int) ∧ Hid (HanK w g X xn xc xs 2 true (.slice A8 j c8) (.slice A9 n9 c9) (.slice A10 n9 c10) j n9 n9 l8 l9 l10 w.heap.size (pre ++ (o1 ++ intsB (l10.take q))) wr)) (fun v _ => n9 - (intOf v).toNat)
     case atStart => exact ⟨0, Nat.zero_le _, rfl, Lib.hid (by have := HN.out; simpa [intsB] using this)⟩
     case round =>
      clear HN
      obtain ⟨q, hq, rfl, HN⟩ := hrel
      have t0 := HN.out.box.cell 0
      by_cases hqn : q < n9
      ·have d1 : decide ((q : Int) < (n9 : Int)) = true := by simp; omega
       have e1 : (q : Int) < (n9 : Int) := by omega
       obtain ⟨ad, u, x, s, rfl, -, hb1, -, g1, -⟩ := cls_at (own_reads HN.out.o10) hqn
       have hx := Hnum.out _ (List.mem_of_getElem? hb1)
       have Hst := Lib.hid (show intsB (l10.take (q + 1)) = intsB (l10.take q) ++ leb (zig x) by rw [List.take_add_one, hb1]; simp [intsB])
       have hlen : (pre ++ (o1 ++ intsB (l10.take q))).length + 10 ≤ 4611686018427387904 := by
        have h1 : (intsB (l10.take q)).length ≤ (intsB l10).length := by
         conv => rhs; rw [← List.take_append_drop q l10]
         unfold intsB
         rw [List.flatMap_append, List.length_append]
         omega
        have := Hbd.out
        rw [Hput.out] at this
        simp only [List.length_append] at this ⊢
        omega
       clear hb1
       go_wp2_with fail
       refine (rzigzag_any g X xn xc xs _ x hx.1 hx.2.1 _ HN.out.wk hlen).mono ?_
       intro e w2 hp
       obtain rfl := hp.1
       have HN2 := HN.out.step hp
       rw [List.append_assoc, List.append_assoc, ← Hst.out] at HN2
       replace HN := Lib.hid HN2
       clear hp HN2 t0 g1 hlen hx
       have t0 := HN.out.box.cell 0
       go_wp2
       go_roundw
       case rel => exact ⟨q + 1, hqn, by go_num, HN⟩
       case measure => simp [intOf]; omega
      ·have d1 : decide ((q : Int) < (n9 : Int)) = false := by simp; omega
       have htk : l10.take q = l10 := List.take_of_length_le (by have := cls_len (own_reads HN.out.o10); omega)
       rw [htk] at HN
       go_wp2
       go_end0
       exact ⟨rfl, by rw [Hput.out]; exact HN.out.wk, HN.out.grown⟩
    ·have t0 := HN.out.box.cell 0
     have Hput := Lib.hid (show putB 3 true (colC li k) [] = o1 ++ intsB l10 by rw [Hpb.out, ← Hl10.out]; rfl)
     go_wp2
     clear t0
     go_loopw [13] (fun v wr => ∃ q : Nat, q ≤ n9 ∧ v = .int .i64 (q : Int) ∧ Hid (HanK w g X xn xc xs 3 true (.slice A8 j c8) (.slice A9 n9 c9) (.slice A10 n9 c10) j n9 n9 l8 l9 l10 w.heap.size (pre ++ (o1 ++ intsB (l10.take q))) wr)) (fun v _ => n9 - (intOf v).toNat)
     case atStart => exact ⟨0, Nat.zero_le _, rfl, Lib.hid (by have := HN.out; simpa [intsB] using this)⟩
     case round =>
      clear HN
      obtain ⟨q, hq, rfl, HN⟩ := hrel
      have t0 := HN.out.box.cell 0
      by_cases hqn : q < n9
      ·have d1 : decide ((q : Int) < (n9 : Int)) = true := by simp; omega
       have e1 : (q : Int) < (n9 : Int) := by omega
       obtain ⟨ad, u, x, s, rfl, -, hb1, -, g1, -⟩ := cls_at (own_reads HN.out.o10) hqn
       have hx := Hnum.out _ (List.mem_of_getElem? hb1)
       have Hst := Lib.hid (show intsB (l10.take (q + 1)) = intsB (l10.take q) ++ leb (zig x) by rw [List.take_add_one, hb1]; simp [intsB])
       have hlen : (pre ++ (o1 ++ intsB (l10.take q))).length + 10 ≤ 4611686018427387904 := by
        have h1 : (intsB (l10.take q)).length ≤ (intsB l10).length := by
         conv => rhs; rw [← List.take_append_drop q l10]
         unfold intsB
         rw [List.flatMap_append, List.length_append]
         omega
        have := Hbd.out
        rw [Hput.out] at this
        simp only [List.length_append] at this ⊢
        omega
       clear hb1
       go_wp2_with fail
       refine (rzigzag_any g X xn xc xs _ x hx.1 hx.2.1 _ HN.out.wk hlen).mono ?_
       intro e w2 hp
       obtain rfl := hp.1
       have HN2 := HN.out.step hp
       rw [List.append_assoc, List.append_assoc, ← Hst.out] at HN2
       replace HN := Lib.hid HN2
       clear hp HN2 t0 g1 hlen hx
       have t0 := HN.out.box.cell 0
       go_wp2
       go_roundw
       case rel => exact ⟨q + 1, hqn, by go_num, HN⟩
       case measure => simp [intOf]; omega
      ·have d1 : decide ((q : Int) < (n9 : Int)) = false := by simp; omega
       have htk : l10.take q = l10 := List.take_of_length_le (by have := cls_len (own_reads HN.out.o10); omega)
       rw [htk] at HN
       go_wp2
       go_end0
       exact ⟨rfl, by rw [Hput.out]; exact HN.out.wk, HN.out.grown⟩
    ·have t0 := HN.out.box.cell 0
     have Hput := Lib.hid (show putB 4 true (colC li k) [] = o1 ++ putD (txc l10) by rw [Hpb.out, ← Hl10.out]; rfl)
     have hbd := Hbd.out
     rw [Hput.out] at hbd
     go_wp2_with fail
     with_reducible refine (rstrings_any g X xn xc xs (pre ++ o1) A10 n9 c10 w.heap.size l10 _ HN.out.wk HN.out.o10 (by omega) Hsz.out (by rw [List.length_append]; rw [List.length_append] at hbd; omega)).mono ?_
     intro e w2 hp
     obtain rfl := hp.1
     have HN2 := HN.out.step hp
     rw [List.append_assoc] at HN2
     replace HN := Lib.hid HN2
     clear hp HN2 t0 hbd
     have t0 := HN.out.box.cell 0
     go_wp2
     clear t0
     go_loopw [13] (fun v wr => ∃ q : Nat, q ≤ n9 ∧ v = .int .i64 (q : Int) ∧ Hid (HanK w g X xn xc xs 4 true (.slice A8 j c8) (.slice A9 n9 c9) (.slice A10 n9 c10) j n9 n9 l8 l9 l10 w.heap.size (pre ++ (o1 ++ putD (txc l10))) wr)) (fun v _ => n9 - (intOf v).toNat)
     case atStart => exact ⟨0, Nat.zero_le _, rfl, HN⟩
     case round =>
      clear HN
      obtain ⟨q, hq, rfl, HN⟩ := hrel
      have t0 := HN.out.box.cell 0
      by_cases hqn : q < n9
      ·have d1 : decide ((q : Int) < (n9 : Int)) = true := by simp; omega
       go_wp2
       go_roundw
       case rel => exact ⟨q + 1, hqn, by go_num, HN⟩
       case measure => simp [intOf]; omega
      ·have d1 : decide ((q : Int) < (n9 : Int)) = false := by simp; omega
       go_wp2
       go_end0
       exact ⟨rfl, by rw [Hput.out]; exact HN.out.wk, HN.out.grown⟩
    ·have t0 := HN.out.box.cell 0
     have Hput := Lib.hid (show putB 5 true (colC li k) [] = o1 ++ rawsB l10 by rw [Hpb.out, ← Hl10.out]; rfl)
     go_wp2
     clear t0
     go_loopw [13] (fun v wr => ∃ q : Nat, q ≤ n9 ∧ v = .int .i64 (q : Int) ∧ Hid (HanK w g X xn xc xs 5 true (.slice A8 j c8) (.slice A9 n9 c9) (.slice A10 n9 c10) j n9 n9 l8 l9 l10 w.heap.size (pre ++ (o1 ++ rawsB (l10.take q))) wr)) (fun v _ => n9 - (intOf v).toNat)
     case atStart => exact ⟨0, Nat.zero_le _, rfl, Lib.hid (by have := HN.out; simpa [rawsB] using this)⟩
     case round =>
      clear HN
      obtain ⟨q, hq, rfl, HN⟩ := hrel
      have t0 := HN.out.box.cell 0
      by_cases hqn : q < n9
      ·have d1 : decide ((q : Int) < (n9 : Int)) = true := by simp; omega
       have e1 : (q : Int) < (n9 : Int) := by omega
       obtain ⟨ad, u, x, s, rfl, -, hb1, -, -, g2⟩ := cls_at (own_reads HN.out.o10) hqn
       have hsz := Hsz.out s (List.mem_of_getElem? (txc_at hb1))
       have Hst := Lib.hid (show rawsB (l10.take (q + 1)) = rawsB (l10.take q) ++ (leb s.size ++ s.data.toList) by rw [List.take_add_one, hb1]; simp [rawsB])
       have hlen : (pre ++ (o1 ++ rawsB (l10.take q))).length + 10 + s.size ≤ 4611686018427387904 := by
        have h1 : (rawsB (l10.take q)).length ≤ (rawsB l10).length := by
         conv => rhs; rw [← List.take_append_drop q l10]
         unfold rawsB
         rw [List.flatMap_append, List.length_append]
         omega
        have := Hbd.out
        rw [Hput.out] at this
        simp only [List.length_append] at this ⊢
        omega
       clear hb1
       go_wp2_with fail
       refine (rtext_any g X xn xc xs _ s (by simp only [maxLen]; omega) _ HN.out.wk hlen).mono ?_
       intro e w2 hp
       obtain rfl := hp.1
       have HN2 := HN.out.step hp
       rw [List.append_assoc, List.append_assoc, ← Hst.out] at HN2
       replace HN := Lib.hid HN2
       clear hp HN2 t0 g2 hlen hsz
       go_wp2
       go_roundw
       case rel => exact ⟨q + 1, hqn, by go_num, HN⟩
       case measure => simp [intOf]; omega
      ·have d1 : decide ((q : Int) < (n9 : Int)) = false := by simp; omega
       have htk : l10.take q = l10 := List.take_of_length_le (by have := cls_len (own_reads HN.out.o10); omega)
       rw [htk] at HN
       go_wp2
       go_end0
       exact ⟨rfl, by rw [Hput.out]; exact HN.out.wk, HN.out.grown⟩
   | false =>
    obtain ⟨o1, ho1⟩ : ∃ o1 : List UInt8, o1 = [] := ⟨_, rfl⟩
    replace Hpb := Lib.hid (show putB kd false (colC li k) [] = o1 ++ bareB kd (someC (colC li k)) by rw [ho1]; exact Hpb.out)
    replace HN := Lib.hid (show HanK w g X xn xc xs kd false (.slice A8 j c8) (.slice A9 n9 c9) (.slice A10 n9 c10) j n9 n9 l8 l9 l10 w.heap.size (pre ++ o1) wr by rw [ho1, List.append_nil]; exact HN.out)
    clear ho1
    generalize wr = w1 at *
    rcases hkk with rfl | rfl | rfl | rfl | rfl
    ·have t0 := HN.out.box.cell 0
     have Hput := Lib.hid (show putB 1 false (colC li k) [] = o1 ++ packL l9 by rw [Hpb.out, Hl9.out]; rfl)
     have hbd := Hbd.out
     rw [Hput.out] at hbd
     have hpk := packL_le l9
     have hl9 : l9.length ≤ n9 := by have := blen (own_reads HN.out.o9); omega
     go_wp2_with fail
     with_reducible refine (rmask_any g X xn xc xs (pre ++ o1) A9 n9 c9 w.heap.size l9 _ HN.out.wk HN.out.o9 (by omega) (by rw [List.length_append]; rw [List.length_append] at hbd; omega)).mono ?_
     intro e w2 hp
     obtain rfl := hp.1
     have HN2 := HN.out.step hp
     rw [List.append_assoc] at HN2
     replace HN := Lib.hid HN2
     clear hp HN2 t0 hbd hpk hl9
     have t0 := HN.out.box.cell 0
     go_wp2
     clear t0
     go_loopw [13] (fun v wr => ∃ q : Nat, q ≤ n9 ∧ v = .int .i64 (q : Int) ∧ Hid (HanK w g X xn xc xs 1 false (.slice A8 j c8) (.slice A9 n9 c9) (.slice A10 n9 c10) j n9 n9 l8 l9 l10 w.heap.size (pre ++ (o1 ++ packL l9)) wr)) (fun v _ => n9 - (intOf v).toNat)
     case atStart => exact ⟨0, Nat.zero_le _, rfl, HN⟩
     case round =>
      clear HN
      obtain ⟨q, hq, rfl, HN⟩ := hrel
      have t0 := HN.out.box.cell 0
      by_cases hqn : q < n9
      ·have d1 : decide ((q : Int) < (n9 : Int)) = true := by simp; omega
       go_wp2
       go_roundw
       case rel => exact ⟨q + 1, hqn, by go_num, HN⟩
       case measure => simp [intOf]; omega
      ·have d1 : decide ((q : Int) < (n9 : Int)) = false := by simp; omega
       go_wp2
       go_end0
       exact ⟨rfl, by rw [Hput.out]; exact HN.out.wk, HN.out.grown⟩
    ·have t0 := HN.out.box.cell 0
     have Hput := Lib.hid (show putB 2 false (colC li k) [] = o1 ++ intsB l10 by rw [Hpb.out, ← Hl10.out]; rfl)
     go_wp2
     clear t0
     go_loopw [13] (fun v wr => ∃ q : Nat, q ≤ n9 ∧ v = .int .i64 (q : Int) ∧ Hid (HanK w g X xn xc xs 2 false (.slice A8 j c8) (.slice A9 n9 c9) (.slice A10 n9 c10) j n9 n9 l8 l9 l10 w.heap.size (pre ++ (o1 ++ intsB (l10.take q))) wr)) (fun v _ => n9 - (intOf v).toNat)
     case atStart => exact ⟨0, Nat.zero_le _, rfl, Lib.hid (by have := HN.out; simpa [intsB] using this)⟩
     case round =>
      clear HN
      obtain ⟨q, hq, rfl, HN⟩ := hrel
      have t0 := HN.out.box.cell 0
      by_cases hqn : q < n9
      ·have d1 : decide ((q : Int) < (n9 : Int)) = true := by simp; omega
       have e1 : (q : Int) < (n9 : Int) := by omega
       obtain ⟨ad, u, x, s, rfl, -, hb1, -, g1, -⟩ := cls_at (own_reads HN.out.o10) hqn
       have hx := Hnum.out _ (List.mem_of_getElem? hb1)
       have Hst := Lib.hid (show intsB (l10.take (q + 1)) = intsB (l10.take q) ++ leb (zig x) by rw [List.take_add_one, hb1]; simp [intsB])
       have hlen : (pre ++ (o1 ++ intsB (l10.take q))).length + 10 ≤ 4611686018427387904 := by
        have h1 : (intsB (l10.take q)).length ≤ (intsB l10).length := by
         conv => rhs; rw [← List.take_append_drop q l10]
         unfold intsB
         rw [List.flatMap_append, List.length_append]
         omega
        have := Hbd.out
        rw [Hput.out] at this
        simp only [List.length_append] at this ⊢
        omega
       clear hb1
       go_wp2_with fail
       refine (rzigzag_any g X xn xc xs _ x hx.1 hx.2.1 _ HN.out.wk hlen).mono ?_
       intro e w2 hp
       obtain rfl := hp.1
       have HN2 := HN.out.step hp
       rw [List.append_assoc, List.append_assoc, ← Hst.out] at HN2
       replace HN := Lib.hid HN2
       clear hp HN2 t0 g1 hlen hx
       have t0 := HN.out.box.cell 0
       go_wp2
       go_roundw
       case rel => exact ⟨q + 1, hqn, by go_num, HN⟩
       case measure => simp [intOf]; omega
      ·have d1 : decide ((q : Int) < (n9 : Int)) = false := by simp; omega
       have htk : l10.take q = l10 := List.take_of_length_le (by have := cls_len (own_reads HN.out.o10); omega)
       rw [htk] at HN
       go_wp2
       go_end0
       exact ⟨rfl, by rw [Hput.out]; exact HN.out.wk, HN.out.grown⟩
    ·have t0 := HN.out.box.cell 0
     have Hput := Lib.hid (show putB 3 false (colC li k) [] = o1 ++ intsB l10 by rw [Hpb.out, ← Hl10.out]; rfl)
     go_wp2
     clear t0
     go_loopw [13] (fun v wr => ∃ q : Nat, q ≤ n9 ∧ v = .int .i64 (q : Int) ∧ Hid (HanK w g X xn xc xs 3 false (.slice A8 j c8) (.slice A9 n9 c9) (.slice A10 n9 c10) j n9 n9 l8 l9 l10 w.heap.size (pre ++ (o1 ++ intsB (l10.take q))) wr)) (fun v _ => n9 - (intOf v).toNat)
     case atStart => exact ⟨0, Nat.zero_le _, rfl, Lib.hid (by have := HN.out; simpa [intsB] using this)⟩
     case round =>
      clear HN
      obtain ⟨q, hq, rfl, HN⟩ := hrel
      have t0 := HN.out.box.cell 0
      by_cases hqn : q < n9
      ·have d1 : decide ((q : Int) < (n9 : Int)) = true := by simp; omega
       have e1 : (q : Int) < (n9 : Int) := by omega
       obtain ⟨ad, u, x, s, rfl, -, hb1, -, g1, -⟩ := cls_at (own_reads HN.out.o10) hqn
       have hx := Hnum.out _ (List.mem_of_getElem? hb1)
       have Hst := Lib.hid (show intsB (l10.take (q + 1)) = intsB (l10.take q) ++ leb (zig x) by rw [List.take_add_one, hb1]; simp [intsB])
       have hlen : (pre ++ (o1 ++ intsB (l10.take q))).length + 10 ≤ 4611686018427387904 := by
        have h1 : (intsB (l10.take q)).length ≤ (intsB l10).length := by
         conv => rhs; rw [← List.take_append_drop q l10]
         unfold intsB
         rw [List.flatMap_append, List.length_append]
         omega
        have := Hbd.out
        rw [Hput.out] at this
        simp only [List.length_append] at this ⊢
        omega
       clear hb1
       go_wp2_with fail
       refine (rzigzag_any g X xn xc xs _ x hx.1 hx.2.1 _ HN.out.wk hlen).mono ?_
       intro e w2 hp
       obtain rfl := hp.1
       have HN2 := HN.out.step hp
       rw [List.append_assoc, List.append_assoc, ← Hst.out] at HN2
       replace HN := Lib.hid HN2
       clear hp HN2 t0 g1 hlen hx
       have t0 := HN.out.box.cell 0
       go_wp2
       go_roundw
       case rel => exact ⟨q + 1, hqn, by go_num, HN⟩
       case measure => simp [intOf]; omega
      ·have d1 : decide ((q : Int) < (n9 : Int)) = false := by simp; omega
       have htk : l10.take q = l10 := List.take_of_length_le (by have := cls_len (own_reads HN.out.o10); omega)
       rw [htk] at HN
       go_wp2
       go_end0
       exact ⟨rfl, by rw [Hput.out]; exact HN.out.wk, HN.out.grown⟩
    ·have t0 := HN.out.box.cell 0
     have Hput := Lib.hid (show putB 4 false (colC li k) [] = o1 ++ putD (txc l10) by rw [Hpb.out, ← Hl10.out]; rfl)
     have hbd := Hbd.out
     rw [Hput.out] at hbd
     go_wp2_with fail
     with_reducible refine (rstrings_any g X xn xc xs (pre ++ o1) A10 n9 c10 w.heap.size l10 _ HN.out.wk HN.out.o10 (by omega) Hsz.out (by rw [List.length_append]; rw [List.length_append] at hbd; omega)).mono ?_
     intro e w2 hp
     obtain rfl := hp.1
     have HN2 := HN.out.step hp
     rw [List.append_assoc] at HN2
     replace HN := Lib.hid HN2
     clear hp HN2 t0 hbd
     have t0 := HN.out.box.cell 0
     go_wp2
     clear t0
     go_loopw [13] (fun v wr => ∃ q : Nat, q ≤ n9 ∧ v = .int .i64 (q : Int) ∧ Hid (HanK w g X xn xc xs 4 false (.slice A8 j c8) (.slice A9 n9 c9) (.slice A10 n9 c10) j n9 n9 l8 l9 l10 w.heap.size (pre ++ (o1 ++ putD (txc l10))) wr)) (fun v _ => n9 - (intOf v).toNat)
     case atStart => exact ⟨0, Nat.zero_le _, rfl, HN⟩
     case round =>
      clear HN
      obtain ⟨q, hq, rfl, HN⟩ := hrel
      have t0 := HN.out.box.cell 0
      by_cases hqn : q < n9
      ·have d1 : decide ((q : Int) < (n9 : Int)) = true := by simp; omega
       go_wp2
       go_roundw
       case rel => exact ⟨q + 1, hqn, by go_num, HN⟩
       case measure => simp [intOf]; omega
      ·have d1 : decide ((q : Int) < (n9 : Int)) = false := by simp; omega
       go_wp2
       go_end0
       exact ⟨rfl, by rw [Hput.out]; exact HN.out.wk, HN.out.grown⟩
    ·have t0 := HN.out.box.cell 0
     have Hput := Lib.hid (show putB 5 false (colC li k) [] = o1 ++ rawsB l10 by rw [Hpb.out, ← Hl10.out]; rfl)
     go_wp2
     clear t0
     go_loopw [13] (fun v wr => ∃ q : Nat, q ≤ n9 ∧ v = .int .i64 (q : Int) ∧ Hid (HanK w g X xn xc xs 5 false (.slice A8 j c8) (.slice A9 n9 c9) (.slice A10 n9 c10) j n9 n9 l8 l9 l10 w.heap.size (pre ++ (o1 ++ rawsB (l10.take q))) wr)) (fun v _ => n9 - (intOf v).toNat)
     case atStart => exact ⟨0, Nat.zero_le _, rfl, Lib.hid (by have := HN.out; simpa [rawsB] using this)⟩
     case round =>
      clear HN
      obtain ⟨q, hq, rfl, HN⟩ := hrel
      have t0 := HN.out.box.cell 0
      by_cases hqn : q < n9
      ·have d1 : decide ((q : Int) < (n9 : Int)) = true := by simp; omega
       have e1 : (q : Int) < (n9 : Int) := by omega
       obtain ⟨ad, u, x, s, rfl, -, hb1, -, -, g2⟩ := cls_at (own_reads HN.out.o10) hqn
       have hsz := Hsz.out s (List.mem_of_getElem? (txc_at hb1))
       have Hst := Lib.hid (show rawsB (l10.take (q + 1)) = rawsB (l10.take q) ++ (leb s.size ++ s.data.toList) by rw [List.take_add_one, hb1]; simp [rawsB])
       have hlen : (pre ++ (o1 ++ rawsB (l10.take q))).length + 10 + s.size ≤ 4611686018427387904 := by
        have h1 : (rawsB (l10.take q)).length ≤ (rawsB l10).length := by
         conv => rhs; rw [← List.take_append_drop q l10]
         unfold rawsB
         rw [List.flatMap_append, List.length_append]
         omega
        have := Hbd.out
        rw [Hput.out] at this
        simp only [List.length_append] at this ⊢
        omega
       clear hb1
       go_wp2_with fail
       refine (rtext_any g X xn xc xs _ s (by simp only [maxLen]; omega) _ HN.out.wk hlen).mono ?_
       intro e w2 hp
       obtain rfl := hp.1
       have HN2 := HN.out.step hp
       rw [List.append_assoc, List.append_assoc, ← Hst.out] at HN2
       replace HN := Lib.hid HN2
       clear hp HN2 t0 g2 hlen hsz
       go_wp2
       go_roundw
       case rel => exact ⟨q + 1, hqn, by go_num, HN⟩
       case measure => simp [intOf]; omega
      ·have d1 : decide ((q : Int) < (n9 : Int)) = false := by simp; omega
       have htk : l10.take q = l10 := List.take_of_length_le (by have := cls_len (own_reads HN.out.o10); omega)
       rw [htk] at HN
       go_wp2
       go_end0
       exact ⟨rfl, by rw [Hput.out]; exact HN.out.wk, HN.out.grown⟩
end Go.Proofs.YtnkgchmkmhdcaaaGreatDoor
namespace Go.Proofs.YtnkgchmkmhdcaaaGreatDoor
open Go.RowKit
structure WlkK (w : World) (g : Nat) (X : Option Addr) (xn xc : Nat) (xs : List UInt8) (v s : Int) (I : Option Addr) (m d : Nat) (out : List UInt8) (wr : World) : Prop where
 wk : Wk wr g X xn xc xs out
 box : Blk wr w.heap.size 30 #[.int .i64 v, .int .i64 s, .slice I m d]
 below : Below w.heap.size w wr
 le : w.heap.size ≤ g
section
variable {w wr w' : World} {g xn xc m d : Nat} {X I : Option Addr} {xs out o2 : List UInt8} {v s : Int} {e : Ending}
theorem WlkK.step (h : WlkK w g X xn xc xs v s I m d out wr) (hp : WalkP g X xn xc xs out o2 wr e w') : WlkK w g X xn xc xs v s I m d (out ++ o2) w' :=
 ⟨hp.2.1, h.box.other hp.2.2 (h.box.ne h.wk.blk (by decide)), h.below.trans (Below.by_ hp.2.2 h.below.size h.le), h.le⟩
theorem WlkK.on (h : WlkK w g X xn xc xs v s I m d out wr) (hb : Below wr.heap.size wr w') : WlkK w g X xn xc xs v s I m d out w' := ⟨h.wk.on hb, h.box.on hb, bon h.below hb, h.le⟩
end
theorem wk_new (w : World) (X : Option Addr) (xn xc : Nat) (xs : List UInt8) (hx : Reads w w.heap.size 1 X xn (u8s xs)) (hxn : xn ≤ maxLen) (g : Nat) (hg : g = w.heap.size) : Wk (w.alloc (.cells #[.slice X xn xc, .int .i64 0, .int .i64 0, .bool false, .int .u32 0] 163)) g X xn xc xs [] := by
 subst hg
 refine ⟨?_, hx.alloc (Nat.le_refl _) _, hxn⟩
 rw [crcS_nil]
 exact Blk.new _ _ _
theorem body_parts (cs : List Co) (V S m : Nat) (li : List It) (hm : li.length = m) : preB cs ((V : Int), (S : Int), li) 0 = [] ++ [77] ++ [83] ++ [1] ++ leb V ++ leb S ++ leb m := by
 rw [preB_zero]
 unfold headB
 simp [hm]
theorem row_in {cs : List Co} {b : Ba} (hf : Fits cs b) {k : Nat} (hk : k < cs.length) : ∀ it ∈ b.2.2, k < it.1.length := fun it hit => by rw [hf.row hit]; exact hk
theorem col_ok {li : List It} {k : Nat} (hok : ItOk li) (hrow : ∀ it ∈ li, k < it.1.length) : ClOk (someC (colC li k)) := by
 intro c hc
 have h1 := (List.mem_filter.1 hc).1
 obtain ⟨it, hit, rfl⟩ := List.mem_map.1 h1
 have h2 := hrow it hit
 rw [List.getElem?_eq_getElem h2]
 exact (hok it hit).1 _ (List.getElem_mem h2)
set_option maxRecDepth 100000 in
set_option maxHeartbeats 8000000 in
theorem rwalk_any (A : Option Addr) (n c : Nat) (cs : List Co) (v s : Int) (I : Option Addr) (m d : Nat) (li : List It) (X : Option Addr) (xn xc : Nat) (xs : List UInt8) (w : World) (hr : Reads w w.heap.size 7 A n (cos cs)) (hi : ItemsAt w w.heap.size I m li) (hx : Reads w w.heap.size 1 X xn (u8s xs)) (hxn : xn ≤ maxLen) (hf : Fits cs (v, s, li)) (hs : s ≤ 9223372036854775807) (hok : ItOk li) :
  Calls Tryz.prog 132 #[.slice A n c, .agg #[.int .i64 v, .int .i64 s, .slice I m d], .slice X xn xc] w fun e w' => ∃ g, e = .returned (.pointer (some ⟨g, 0, none⟩)) ∧ Wk w' g X xn xc xs (encA cs (v, s, li)) ∧ Below w.heap.size w w' := by
 have HC := Lib.hid hr
 have HI := Lib.hid hi
 have Hf := Lib.hid hf
 have Hok := Lib.hid hok
 have hnl := cos_len hr
 have Hnl := Lib.hid hnl
 have hml := hi.len
 have Hml := Lib.hid hml
 have hn32 : n ≤ 32 := by have := (mayCs_len hf.may).2; omega
 have hm20 : m ≤ 1048576 := by have := hf.rows; simp only at this; omega
 have hv0 := hf.v0
 have hv1 := hf.v1
 have hs0 := hf.s0
 simp only at hv0 hv1 hs0
 obtain ⟨V, hV, hVl⟩ : ∃ V : Nat, v = (V : Int) ∧ V ≤ 2147483647 := ⟨v.toNat, by omega, by omega⟩
 obtain ⟨S, hS, hSl⟩ : ∃ S : Nat, s = (S : Int) ∧ S ≤ 9223372036854775807 := ⟨s.toNat, by omega, by omega⟩
 subst hV hS
 have Hp0 := Lib.hid (body_parts cs V S m li hml)
 have H := Lib.hid (show WlkK w (w.heap.size + 1) X xn xc xs (V : Int) (S : Int) I m d [] ((w.alloc (.cells #[.int .i64 (V : Int), .int .i64 (S : Int), .slice I m d] 30)).alloc (.cells #[.slice X xn xc, .int .i64 0, .int .i64 0, .bool false, .int .u32 0] 163)) from
  ⟨wk_new _ X xn xc xs (hx.al _) hxn _ (by simp), (Blk.new w _ _).alloc _, bal (bal (Below.refl _ _) _) _, Nat.le_succ _⟩)
 have hlv := leb_le V
 have hls := leb_le S
 have hlm := leb_le m
 clear hr hi hx hf hok hnl hml hs hv0 hv1 hs0
 go_enter Tryz.func132, Tryz.ntmps132
 go_wp2_with fail
 generalize (w.alloc (.cells #[.int .i64 (V : Int), .int .i64 (S : Int), .slice I m d] 30)).alloc (.cells #[.slice X xn xc, .int .i64 0, .int .i64 0, .bool false, .int .u32 0] 163) = W0 at *
 refine (ris_any (w.heap.size + 1) X xn xc xs _ 77 _ (by rfl) _ H.out.wk (by simp)).mono ?_
 intro e w1 hp
 obtain rfl := hp.1
 replace H := Lib.hid (H.out.step hp)
 clear hp
 go_wp2_with fail
 refine (ris_any (w.heap.size + 1) X xn xc xs _ 83 _ (by rfl) _ H.out.wk (by simp)).mono ?_
 intro e w2 hp
 obtain rfl := hp.1
 replace H := Lib.hid (H.out.step hp)
 clear hp
 go_wp2_with fail
 refine (ris_any (w.heap.size + 1) X xn xc xs _ 1 _ (by rfl) _ H.out.wk (by simp)).mono ?_
 intro e w3 hp
 obtain rfl := hp.1
 replace H := Lib.hid (H.out.step hp)
 clear hp
 have p0 := H.out.box.cell 0
 go_wp2_with fail
 refine (rnumber_any (w.heap.size + 1) X xn xc xs _ V _ (by first | rfl | (simp only [IntKind.wrap_u64]; omega)) (by omega) _ H.out.wk (by simp)).mono ?_
 intro e w4 hp
 obtain rfl := hp.1
 replace H := Lib.hid (H.out.step hp)
 clear hp p0
 have p1 := H.out.box.cell 1
 go_wp2_with fail
 refine (rnumber_any (w.heap.size + 1) X xn xc xs _ S _ (by first | rfl | (simp only [IntKind.wrap_u64]; omega)) (by omega) _ H.out.wk (by simp; omega)).mono ?_
 intro e w5 hp
 obtain rfl := hp.1
 replace H := Lib.hid (H.out.step hp)
 clear hp p1
 have p2 := H.out.box.cell 2
 go_wp2_with fail
 refine (rnumber_any (w.heap.size + 1) X xn xc xs _ m _ (by first | rfl | (simp only [IntKind.wrap_u64]; omega)) (by omega) _ H.out.wk (by simp; omega)).mono ?_
 intro e w6 hp
 obtain rfl := hp.1
 replace H := Lib.hid (H.out.step hp)
 clear hp p2
 rw [← Hp0.out] at H
 clear Hp0 hlv hls hlm
 obtain ⟨b, hb⟩ : ∃ b : Ba, ((V : Int), (S : Int), li) = b := ⟨_, rfl⟩
 have hb2 : b.2.2 = li := by rw [← hb]
 rw [hb] at H Hf
 have Hb2 := Lib.hid hb2
 have Hb := Lib.hid hb
 clear hb2 hb
 go_wp2
 go_loopw [8] (fun ix wr => ∃ j : Nat, j ≤ n ∧ ix = .int .i64 (j : Int) ∧ Hid (WlkK w (w.heap.size + 1) X xn xc xs (V : Int) (S : Int) I m d (preB cs b j) wr)) (fun ix _ => n - (intOf ix).toNat)
 case atStart => exact ⟨0, Nat.zero_le _, rfl, H⟩
 case round =>
  clear H
  obtain ⟨j, hj, rfl, H⟩ := hrel
  by_cases hjn : j < n
  ·have d1 : decide ((j : Int) < (n : Int)) = true := by simp; omega
   have e1 : (j : Int) < (n : Int) := by omega
   have hS : wr.grownBy wr.drew (some (w.heap.size + 1)) := grown_drew _ _
   obtain ⟨ad, co, rfl, hbk, hco, hat⟩ := cos_at (HC.out.below H.out.below) hjn
   obtain ⟨i0, nm, kk, nl, u0, x0, s0⟩ := co
   have hmk := mayCs_at Hf.out.may hco
   simp only at hmk
   have hk15 : kk = 1 ∨ kk = 2 ∨ kk = 3 ∨ kk = 4 ∨ kk = 5 := by
    obtain ⟨h1, h5⟩ : 1 ≤ kk ∧ kk ≤ 5 := by simpa [mayK] using hmk
    omega
   have hcolc := Hf.out.col hco
   simp only at hcolc
   have hszs := some_sizes hmk hcolc
   have hrow := row_in Hf.out (k := j) (by rw [Hnl.out]; exact hjn)
   have hok := col_ok (k := j) (by rw [Hb2.out]; exact Hok.out) hrow
   have hnx := preB_succ cs b j _ hco
   simp only at hnx
   have happ : preB cs b (j + 1) = preB cs b j ++ putB kk nl (colC li j) [] := by rw [hnx, Hb2.out]; simp [putB]
   have hple := Hf.out.preB_le (j + 1) (by rw [Hnl.out]; exact hjn)
   rw [happ, List.length_append] at hple
   rw [Hb2.out] at hcolc hszs hrow hok
   have hrl : ∀ it ∈ li, it.1.length ≤ 1048576 := fun it hit => by
    have := Hf.out.row (it := it) (by rw [Hb2.out]; exact hit)
    rw [this, Hnl.out]
    omega
   have Hcall := Lib.hid (fun W hW hI => rcolumn_any (w.heap.size + 1) X xn xc xs (preB cs b j) kk nl I m d li j W hW hI hm20 hrow hrl hk15 (fun s hs => by obtain ⟨c, hc, rfl⟩ := List.mem_map.1 hs; exact Nat.le_trans (hszs c hc) (by decide)) hok (by omega))
   have Happ := Lib.hid happ
   have q2 := hat.c2
   have q3 := hat.c3
   simp only at q2 q3
   have hblk : ad.block < w.heap.size := hbk
   have HL2 := Lib.hid (show ∀ w', wr.grownBy w' (some (w.heap.size + 1)) → w'.cell? ⟨(ad.add (j * 7)).block, (ad.add (j * 7)).off + 2, none⟩ = some (.int .i64 kk) from fun w' h => (World.cell?_of_block (w := wr) (h.block _ (by rw [block_of_add]; exact Nat.lt_of_lt_of_le hblk H.out.below.size) (by rw [block_of_add]; intro e; injection e with e; omega))).trans q2)
   have HL3 := Lib.hid (show ∀ w', wr.grownBy w' (some (w.heap.size + 1)) → w'.cell? ⟨(ad.add (j * 7)).block, (ad.add (j * 7)).off + 3, none⟩ = some (.bool nl) from fun w' h => (World.cell?_of_block (w := wr) (h.block _ (by rw [block_of_add]; exact Nat.lt_of_lt_of_le hblk H.out.below.size) (by rw [block_of_add]; intro e; injection e with e; omega))).trans q3)
   have HM2 := Lib.hid (show ∀ w', wr.grownBy w' (some (w.heap.size + 1)) → w'.cell? ⟨w.heap.size, 2, none⟩ = some (.slice I m d) from fun w' h => (World.cell?_of_block (w := wr) (h.block _ H.out.box.lt (by intro e; have e2 : w.heap.size = w.heap.size + 1 := (by injection e); omega))).trans (H.out.box.cell 2))
   clear hat hbk hco hmk hk15 hcolc hszs hrow hok hnx happ hple hrl q2 q3 hblk
   go_wp2
   refine wp_region_keep (fun w' => wr.grownBy w' (some (w.heap.size + 1))) [(0, false), (1, false), (2, false), (3, false), (4, false), (5, false), (6, false), (7, false), (8, false), (9, true)] (by kernel_rfl) (by kernel_rfl) (by kernel_rfl) (fun d _ _ _ _ h => by cases d <;> exact h) ?_
   iterate 5
    refine held_pure (v := ?_) rfl rfl (by simp [Region.wanted, yielded]) hS ?_ ?_
    rotate_left
    ·intro w hw; go_simp; try with_reducible rfl
    try simp only [Act.put, zpA, zpB, zpC]
   refine held_pure (v := ?_) rfl rfl (by simp [Region.wanted, yielded]) hS ?_ ?_
   rotate_left
   ·intro w hw; have c0 := HL2.out w hw; have c1 := HL3.out w hw; clear hw; go_simp; try with_reducible rfl
   try simp only [Act.put, zpA, zpB, zpC]
   refine held_pure (v := ?_) rfl rfl (by simp [Region.wanted, yielded]) hS ?_ ?_
   rotate_left
   ·intro w hw; go_simp; try with_reducible rfl
   try simp only [Act.put, zpA, zpB, zpC]
   refine held_pure (v := ?_) rfl rfl (by simp [Region.wanted, yielded]) hS ?_ ?_
   rotate_left
   ·intro w hw; have c0 := HM2.out w hw; clear hw; go_simp; try with_reducible rfl
   try simp only [Act.put, zpA, zpB, zpC]
   refine held_pure (v := ?_) rfl rfl (by simp [Region.wanted, yielded]) hS ?_ ?_
   rotate_left
   ·intro w hw; go_simp; try with_reducible rfl
   try simp only [Act.put, zpA, zpB, zpC]
   refine held_eff1 rfl (by simp [Region.wanted, yielded]) fun K hK => ?_
   go_simp
   with_reducible refine (Hcall.out _ H.out.wk.drew ((HI.out.below H.out.below).more (Nat.le_succ _)).drew).mono ?_
   intro e w7 hp
   obtain rfl := hp.1
   have H2 := (H.out.on (show Below wr.heap.size wr wr.drew from (Below.refl _ _).drew)).step hp
   rw [← Happ.out] at H2
   replace H := Lib.hid H2
   have HS7 := Lib.hid (grown_trans (grown_drew wr (some (w.heap.size + 1))) hp.2.2)
   clear hp H2
   refine held_go hK (by exact HS7.out) fun hS => ?_
   clear hK K
   try simp only [Act.put, zpA, zpB, zpC]
   refine held_end ?_
   clear HL2 HL3 HM2 HS7 Hcall Happ hS
   go_wp2
   go_roundw
   case rel => exact ⟨j + 1, hjn, by go_num, H⟩
   case measure => simp [intOf]; omega
  ·obtain rfl : j = n := by omega
   have d1 : decide ((j : Int) < (j : Int)) = false := by simp
   have hpw : preB cs b j = preW cs b 0 := by rw [preW_zero, Hnl.out]
   rw [hpw] at H
   clear hpw
   go_wp2
   go_loopw [9] (fun ix wr => ∃ i : Nat, i ≤ m ∧ ix = .int .i64 (i : Int) ∧ Hid (WlkK w (w.heap.size + 1) X xn xc xs (V : Int) (S : Int) I m d (preW cs b i) wr)) (fun ix _ => m - (intOf ix).toNat)
   case atStart => exact ⟨0, Nat.zero_le _, rfl, H⟩
   case round =>
    clear H d1
    obtain ⟨i, hi, rfl, H⟩ := hrel
    have p2 := H.out.box.cell 2
    by_cases him : i < m
    ·have d1 : decide ((i : Int) < (m : Int)) = true := by simp; omega
     have e1 : (i : Int) < (m : Int) := by omega
     obtain ⟨ad, A', c', it, rfl, -, hit, -, h1, -, -, -⟩ := (HI.out.below H.out.below).at_ him
     have hx := (Hok.out it (List.mem_of_getElem? hit)).2
     have Hst := Lib.hid (preW_succ cs b i it (by rw [Hb2.out]; exact hit))
     have hle := Hf.out.preW_le i
     generalize it.2 = wt at *
     clear hit
     go_wp2_with fail
     refine (rzigzag_any (w.heap.size + 1) X xn xc xs _ wt hx.1 hx.2 _ H.out.wk (by omega)).mono ?_
     intro e w7 hp
     obtain rfl := hp.1
     have H2 := H.out.step hp
     rw [← Hst.out] at H2
     replace H := Lib.hid H2
     clear hp H2 p2 h1 hx hle
     go_wp2
     go_roundw
     case rel => exact ⟨i + 1, him, by go_num, H⟩
     case measure => simp [intOf]; omega
    ·obtain rfl : i = m := by omega
     have d1 : decide ((i : Int) < (i : Int)) = false := by simp
     have hpe : preW cs b i = bodyB cs b := by rw [← Hml.out, ← Hb2.out]; exact preW_end cs b
     rw [hpe] at H
     have HE := Lib.hid (show encA cs b = bodyB cs b ++ sumB (crcS (bodyB cs b)) from rfl)
     have hle := Hf.out.body_le
     obtain ⟨bb, hbb⟩ : ∃ bb, bodyB cs b = bb := ⟨_, rfl⟩
     rw [hbb] at H HE hle
     obtain ⟨sm, hsm⟩ : ∃ sm, crcS bb = sm := ⟨_, rfl⟩
     have hsl : sm < 4294967296 := by rw [← hsm]; exact crcS_lt _
     rw [hsm] at HE
     have q4 : wr.cell? ⟨w.heap.size + 1, 4, none⟩ = some (.int .u32 (sm : Int)) := by rw [← hsm]; exact H.out.wk.blk.cell 4
     clear hpe hbb hsm
     go_wp2_with fail
     with_reducible refine (rbytes_any sm hsl _).mono ?_
     rintro e w7 ⟨g7, rfl, hg7, ho7, hb7⟩
     have HO := Lib.hid ho7
     replace H := Lib.hid (H.out.on hb7)
     clear ho7 hb7 hg7 q4 p2
     go_wp2
     go_loopw [11] (fun ix wr => ∃ q : Nat, q ≤ 4 ∧ ix = .int .i64 (q : Int) ∧ Hid (WlkK w (w.heap.size + 1) X xn xc xs (V : Int) (S : Int) I i d (bb ++ (sumB sm).take q) wr) ∧ Hid (∃ bs, wr.ownsRow bs 5 1 (.slice (some ⟨g7, 0, none⟩) 4 4) 4 (u8s (sumB sm)))) (fun ix _ => 4 - (intOf ix).toNat)
     case atStart => exact ⟨0, by omega, rfl, Lib.hid (by rw [List.take_zero, List.append_nil]; exact H.out), Lib.hid ⟨_, HO.out⟩⟩
     case round =>
      clear H d1 HO
      obtain ⟨q, hq, rfl, H, HO⟩ := hrel
      by_cases hq4 : q < 4
      ·have d1 : decide ((q : Int) < 4) = true := by simp; omega
       have e1 : (q : Int) < 4 := by omega
       obtain ⟨bs, ho⟩ := HO.out
       obtain ⟨x, hx⟩ : ∃ x, (sumB sm)[q]? = some x := ⟨_, List.getElem?_eq_getElem (by rw [sumB_len]; exact hq4)⟩
       have c1 : wr.cell? ⟨g7, q, none⟩ = some (.int .u8 (x.toNat : Int)) := by
        rw [ho.cellAt q (by omega)]
        simp [u8s, hx]
       have Hst := Lib.hid (show (sumB sm).take (q + 1) = (sumB sm).take q ++ [x] by rw [List.take_add_one, hx]; rfl)
       have Ho := Lib.hid ho
       clear hx ho HO
       go_wp2_with fail
       refine (ris_any (w.heap.size + 1) X xn xc xs _ x _ rfl _ H.out.wk (by rw [List.length_append, List.length_take]; omega)).mono ?_
       intro e w8 hp
       obtain rfl := hp.1
       have H2 := H.out.step hp
       rw [List.append_assoc, ← Hst.out] at H2
       have HO2 := Lib.hid (show ∃ bs, w8.ownsRow bs 5 1 (.slice (some ⟨g7, 0, none⟩) 4 4) 4 (u8s (sumB sm)) from ⟨bs, own_grown Ho.out H.out.wk.blk (by decide) hp.2.2⟩)
       replace H := Lib.hid H2
       clear hp H2 c1 Ho
       go_wp2
       go_roundw
       case rel => exact ⟨q + 1, hq4, by go_num, H, HO2⟩
       case measure => simp [intOf]; omega
      ·obtain rfl : q = 4 := by omega
       have d1 : decide ((4 : Int) < 4) = false := by simp
       rw [List.take_of_length_le (by rw [sumB_len]; exact Nat.le_refl _), ← HE.out, ← Hb.out] at H
       go_wp2
       go_ret
       exact ⟨_, rfl, H.out.wk, H.out.below⟩
end Go.Proofs.YtnkgchmkmhdcaaaGreatDoor
