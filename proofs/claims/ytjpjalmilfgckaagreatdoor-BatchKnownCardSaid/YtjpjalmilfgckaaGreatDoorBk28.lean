/- Part 28 of the walks, merged: each text under its own heading. Conditions: none of its own; each lemma states what it asks. -/
import Derived.Test.YtjpjalmilfgckaaGreatDoorBk16
import Derived.Test.YtjpjalmilfgckaaGreatDoorBk17
import Derived.Test.YtjpjalmilfgckaaGreatDoorBk20
import Derived.Test.YtjpjalmilfgckaaGreatDoorBk27
import Derived.Lib.LaidU8T
import Derived.OpenShut
set_option linter.unusedVariables false
set_option linter.unusedSimpArgs false
namespace Go.Proofs.YtjpjalmilfgckaaGreatDoor
open Go.RowKit Go.Deep Go.ChangeShapes Go.WideShapes Go.Shelf Go.Lib
theorem struct_fields {H : Type} {enc : TypeId × Value → H} {P : Program} {w : World} {held : Bool} {sp : Nat → Bool} {base : Nat} {ts : TypeId} {fs : Array Field} {fuel : Nat} {cs : List Value} {x : DataW H × List MemPlace} (hs : P.underlying ts = some (.struct fs))
  (h : DataW.trod enc P w base sp held fuel ts cs = some x) : ∃ n, cs.length = P.cellsOf ts ∧ ∀ (i : Nat) (f : Field), fs[i]? = some f → ∃ y, DataW.trod enc P w base sp held n f.type ((cs.drop f.offset).take (P.cellsOf f.type)) = some y := by
 obtain ⟨xs, n, _, rfl, hcl, hxl, hf⟩ := DataW.trod_struct hs h
 refine ⟨n, hcl, fun i f hi => ?_⟩
 have g := hf i f hi
 have hlt : i < fs.size := (Array.getElem?_eq_some_iff.1 hi).1
 rw [List.getElem?_eq_getElem (by omega)] at g
 exact ⟨_, g⟩
theorem cell_of {H : Type} {enc : TypeId × Value → H} {w : World} {held : Bool} {n : Nat} {cs : List Value} {y : DataW H × List MemPlace} (hy : DataW.trod enc Tryz.prog w 0 (fun _ => true) held n 23 cs = some y) :
  ∃ c : Cl, cs = [.bool c.1, .int .i64 c.2.1, .string c.2.2] ∧ -9223372036854775808 ≤ c.2.1 ∧ c.2.1 ≤ 9223372036854775807 ∧ c.2.2.size ≤ maxLen := by
 obtain ⟨m, hl, hc⟩ := struct_cells Tryz.underlying23 (by kernel_rfl) (by kernel_rfl) hy
 match cs, hl with
 | [v0, v1, v2], _ =>
  obtain ⟨y0, g0⟩ := hc 0 _ _ rfl rfl
  obtain ⟨y1, g1⟩ := hc 1 _ _ rfl rfl
  obtain ⟨y2, g2⟩ := hc 2 _ _ rfl rfl
  obtain ⟨u, e0, -⟩ := DataW.trod_bool Tryz.underlying4 g0
  obtain ⟨k, e1, _, b1⟩ := DataW.trod_int Tryz.underlying2 g1
  obtain ⟨s, e2, _, b2⟩ := DataW.trod_string Tryz.underlying9 g2
  cases e0
  cases e1
  cases e2
  exact ⟨(u, k, s), rfl, (bounds_i64 b1).1, (bounds_i64 b1).2, b2⟩
theorem ktype_of {H : Type} {enc : TypeId × Value → H} {w : World} {held : Bool} {n : Nat} {cs : List Value} {y : DataW H × List MemPlace} (hy : DataW.trod enc Tryz.prog w 0 (fun _ => true) held n 43 cs = some y) :
  ∃ (k : Int) (nl : Bool), cs = [.int .i64 k, .bool nl] ∧ -9223372036854775808 ≤ k ∧ k ≤ 9223372036854775807 := by
 obtain ⟨m, hl, hc⟩ := struct_cells Tryz.underlying43 (by kernel_rfl) (by kernel_rfl) hy
 match cs, hl with
 | [v0, v1], _ =>
  obtain ⟨y0, g0⟩ := hc 0 _ _ rfl rfl
  obtain ⟨y1, g1⟩ := hc 1 _ _ rfl rfl
  obtain ⟨k, e0, _, b0⟩ := DataW.trod_int Tryz.underlying3 g0
  obtain ⟨u, e1, -⟩ := DataW.trod_bool Tryz.underlying4 g1
  cases e0
  cases e1
  exact ⟨k, u, rfl, (bounds_i64 b0).1, (bounds_i64 b0).2⟩
def CoOk (l : List Co) : Prop := ∀ c ∈ l, -9223372036854775808 ≤ c.2.2.1 ∧ c.2.2.1 ≤ 9223372036854775807
set_option maxRecDepth 100000 in
theorem cols_of {H : Type} {enc : TypeId × Value → H} {w : World} {held : Bool} {a : Option Addr} {len cap : Nat} {d : DataW H} {p : List MemPlace} (h : DataW.Trod enc Tryz.prog w 0 (fun _ => true) held 32 (.slice a len cap) d p) :
  ∃ xs : List Co, Reads w w.heap.size 7 a len (cos xs) ∧ len ≤ cap ∧ cap ≤ maxLen ∧ CoOk xs := by
 haveI : Inhabited Co := ⟨(0, ⟨#[]⟩, 0, false, false, 0, ⟨#[]⟩)⟩
 refine structs_of 7 coV (fun c => -9223372036854775808 ≤ c.2.2.1 ∧ c.2.2.1 ≤ 9223372036854775807) (by decide) (fun _ => rfl) Tryz.underlying32 (by kernel_rfl) (fun n cs y hy => ?_) h
 obtain ⟨m, hl, hc⟩ := struct_fields Tryz.underlying45 hy
 rw [show Tryz.prog.cellsOf 45 = 7 by kernel_rfl] at hl
 match cs, hl with
 | [v0, v1, v2, v3, v4, v5, v6], _ =>
  obtain ⟨y0, g0⟩ : ∃ y, DataW.trod enc Tryz.prog w 0 (fun _ => true) held m 3 (([v0, v1, v2, v3, v4, v5, v6].drop 0).take (Tryz.prog.cellsOf 3)) = some y := hc 0 _ rfl
  obtain ⟨y1, g1⟩ : ∃ y, DataW.trod enc Tryz.prog w 0 (fun _ => true) held m 9 (([v0, v1, v2, v3, v4, v5, v6].drop 1).take (Tryz.prog.cellsOf 9)) = some y := hc 1 _ rfl
  obtain ⟨y2, g2⟩ : ∃ y, DataW.trod enc Tryz.prog w 0 (fun _ => true) held m 43 (([v0, v1, v2, v3, v4, v5, v6].drop 2).take (Tryz.prog.cellsOf 43)) = some y := hc 2 _ rfl
  obtain ⟨y3, g3⟩ : ∃ y, DataW.trod enc Tryz.prog w 0 (fun _ => true) held m 23 (([v0, v1, v2, v3, v4, v5, v6].drop 4).take (Tryz.prog.cellsOf 23)) = some y := hc 3 _ rfl
  rw [show Tryz.prog.cellsOf 3 = 1 by kernel_rfl] at g0
  rw [show Tryz.prog.cellsOf 9 = 1 by kernel_rfl] at g1
  rw [show Tryz.prog.cellsOf 43 = 2 by kernel_rfl] at g2
  rw [show Tryz.prog.cellsOf 23 = 3 by kernel_rfl] at g3
  simp only [List.drop_zero, List.drop_succ_cons, List.take_succ_cons, List.take_zero] at g0 g1 g2 g3
  obtain ⟨i, e0, -, -⟩ := DataW.trod_int Tryz.underlying3 g0
  obtain ⟨s, e1, -, -⟩ := DataW.trod_string Tryz.underlying9 g1
  obtain ⟨k, nl, e2, b2⟩ := ktype_of g2
  obtain ⟨c, e3, -⟩ := cell_of g3
  cases e0
  cases e1
  cases e2
  cases e3
  exact ⟨(i, s, k, nl, c), rfl, b2⟩
theorem items_of {H : Type} {enc : TypeId × Value → H} {w : World} {held : Bool} {a : Option Addr} {len cap : Nat} {d : DataW H} {p : List MemPlace} (h : DataW.Trod enc Tryz.prog w 0 (fun _ => true) held 27 (.slice a len cap) d p) :
  ∃ l : List It, ItemsAt w w.heap.size a len l ∧ len ≤ cap ∧ cap ≤ maxLen ∧ ItOk l := by
 haveI : Inhabited (Hd × It) := ⟨(none, 0, 0), [], 0⟩
 obtain ⟨xs, h1, h2, h3, h4⟩ := structs_of 2 (fun q : Hd × It => itV q.1 q.2) (fun q => (Reads w w.heap.size 3 q.1.1 q.1.2.1 (cls q.2.1) ∧ q.1.2.1 ≤ q.1.2.2 ∧ q.1.2.2 ≤ maxLen) ∧ ClOk q.2.1 ∧ -9223372036854775808 ≤ q.2.2 ∧ q.2.2 ≤ 9223372036854775807) (by decide) (fun _ => rfl)
  Tryz.underlying27 (by kernel_rfl) (fun n cs y hy => by
   obtain ⟨m, hl, hc⟩ := struct_cells Tryz.underlying26 (by kernel_rfl) (by kernel_rfl) hy
   match cs, hl with
   | [v0, v1], _ =>
    obtain ⟨y0, g0⟩ := hc 0 _ _ rfl rfl
    obtain ⟨y1, g1⟩ := hc 1 _ _ rfl rfl
    obtain ⟨k, e1, _, b1⟩ := DataW.trod_int Tryz.underlying2 g1
    rcases open_slice Tryz.underlying24 g0 with ⟨e0, -⟩ | ⟨ad, l, c, -, -, -, -, e0, -⟩
    ·cases e0
     cases e1
     obtain ⟨r, r1, r2, r3, r4⟩ := cells_of (a := none) (len := 0) (cap := 0) ⟨m, g0⟩
     exact ⟨((none, 0, 0), r, k), rfl, ⟨r1, r2, r3⟩, r4, (bounds_i64 b1).1, (bounds_i64 b1).2⟩
    ·cases e0
     cases e1
     obtain ⟨r, r1, r2, r3, r4⟩ := cells_of (a := some ad) (len := l) (cap := c) ⟨m, g0⟩
     exact ⟨((some ad, l, c), r, k), rfl, ⟨r1, r2, r3⟩, r4, (bounds_i64 b1).1, (bounds_i64 b1).2⟩) h
 have hz : (xs.map (·.1)).zip (xs.map (·.2)) = xs := by
  rw [List.zip_map']
  simp
 refine ⟨xs.map (·.2), ⟨xs.map (·.1), ?_, by simp, fun j g it hg hi => ?_⟩, h2, h3, fun it hit => ?_⟩
 ·unfold its
  rw [hz]
  exact h1
 ·rw [List.getElem?_map] at hg hi
  cases hx : xs[j]? with
  | none => rw [hx] at hg; cases hg
  | some q =>
   rw [hx] at hg hi
   cases hg
   cases hi
   exact (h4 q (List.mem_of_getElem? hx)).1
 ·obtain ⟨q, hq, rfl⟩ := List.mem_map.1 hit
  exact (h4 q hq).2
theorem batch_of {H : Type} {enc : TypeId × Value → H} {w : World} {held : Bool} {cs : Array Value} {d : DataW H} {p : List MemPlace} (h : DataW.Trod enc Tryz.prog w 0 (fun _ => true) held 30 (.agg cs) d p) :
  ∃ (v s : Int) (a : Option Addr) (len cap : Nat) (l : List It), cs = #[.int .i64 v, .int .i64 s, .slice a len cap] ∧ (-9223372036854775808 ≤ v ∧ v ≤ 9223372036854775807) ∧ (-9223372036854775808 ≤ s ∧ s ≤ 9223372036854775807) ∧ ItemsAt w w.heap.size a len l ∧ len ≤ cap ∧ cap ≤ maxLen ∧ ItOk l := by
 obtain ⟨fuel, hf⟩ := h
 obtain ⟨m, hl, hc⟩ := struct_cells Tryz.underlying30 (by kernel_rfl) (by kernel_rfl) hf
 obtain ⟨cl, hcl⟩ : ∃ cl, cl = cs.toList := ⟨_, rfl⟩
 have hcs : cs = cl.toArray := by rw [hcl]
 have hcells : (Value.agg cs).cells = cs := rfl
 rw [hcells, ← hcl] at hl hc
 match cl, hl with
 | [v0, v1, v2], _ =>
  obtain ⟨y0, g0⟩ := hc 0 _ _ rfl rfl
  obtain ⟨y1, g1⟩ := hc 1 _ _ rfl rfl
  obtain ⟨y2, g2⟩ := hc 2 _ _ rfl rfl
  obtain ⟨v, e0, _, b0⟩ := DataW.trod_int Tryz.underlying3 g0
  obtain ⟨s, e1, _, b1⟩ := DataW.trod_int Tryz.underlying2 g1
  rcases open_slice Tryz.underlying27 g2 with ⟨e2, -⟩ | ⟨ad, l, c, -, -, -, -, e2, -⟩
  ·cases e0
   cases e1
   cases e2
   obtain ⟨r, r1, r2, r3, r4⟩ := items_of (a := none) (len := 0) (cap := 0) ⟨m, g2⟩
   exact ⟨v, s, none, 0, 0, r, hcs, bounds_i64 b0, bounds_i64 b1, r1, r2, r3, r4⟩
  ·cases e0
   cases e1
   cases e2
   obtain ⟨r, r1, r2, r3, r4⟩ := items_of (a := some ad) (len := l) (cap := c) ⟨m, g2⟩
   exact ⟨v, s, some ad, l, c, r, hcs, bounds_i64 b0, bounds_i64 b1, r1, r2, r3, r4⟩
end Go.Proofs.YtjpjalmilfgckaaGreatDoor
namespace Go.Proofs.YtjpjalmilfgckaaGreatDoor
open Go.RowKit Go.Deep Go.ChangeShapes Go.WideShapes Go.Shelf Go.Lib
def crcData : DataW Unit := tabData .u32 (crcTab.map Int.ofNat)
theorem ctab_of {w : World} (h : VarReads Tryz.prog w "millstream/crc.table" crcData) : CTab w := by
 intro i hi
 obtain ⟨g, t, cs, fuel, p, hg, hty, hvar, hd⟩ := h
 obtain rfl : g = 0 := Option.some.inj (hg.symm.trans (by kernel_rfl))
 obtain rfl : t = 212 := Option.some.inj (hty.symm.trans (by kernel_rfl))
 have hcs := cells_of_tab Tryz.underlying212 Tryz.underlying67 (by kernel_rfl) (by kernel_rfl) hd
 rw [World.var?_cell hg hvar i, ← Array.getElem?_toList, hcs]
 have := step4_tab i hi
 simp [this]
end Go.Proofs.YtjpjalmilfgckaaGreatDoor
namespace Go.Proofs.YtjpjalmilfgckaaGreatDoor
open Go.RowKit
theorem Fits.peek {cs : List Co} {b : Ba} (h : Fits cs b) (hb : BaOk b) : pkV (batD (encA cs b)) = (0, b.1, b.2.1, (b.2.2.length : Int)) := by
 have hl : (encA cs b).length - 4 = (bodyB cs b).length := by rw [encA_len]; omega
 have ht : (encA cs b).take ((encA cs b).length - 4) = bodyB cs b := by rw [hl]; unfold encA; exact List.take_left
 have hd : (encA cs b).drop ((encA cs b).length - 4) = sumB (crcS (bodyB cs b)) := by rw [hl]; unfold encA; exact List.drop_left
 have h3 := body_take3 cs b []
 rw [List.append_nil] at h3
 have e : (bodyB cs b).drop 3 = leb b.1.toNat ++ (leb b.2.1.toNat ++ (leb b.2.2.length ++ (colsB cs b.2.2 cs.length ++ wsB b.2.2))) := by simp [bodyB, headB]
 have h4 := h.v0
 have h5 := h.v1
 have h6 := h.s0
 have h7 := hb.1
 unfold batD
 rw [if_neg (by rw [encA_len]; omega), ht, hd, if_pos rfl, if_pos h3, e, batR_put _ _ _ (by omega) (by omega) h.rows]
 simp only [pkV, Prod.mk.injEq, true_and, and_true]
 omega
theorem cutl_ok {l : List It} (h : ItOk l) : ItOk (cutl l) := by
 intro it hit
 obtain ⟨x, hx, rfl⟩ := List.mem_map.1 hit
 obtain ⟨h1, h2⟩ := h x (List.mem_of_mem_take hx)
 exact ⟨cutr_ok h1, h2⟩
structure LawB (w : World) (A1 : Option Addr) (k1 : Nat) (lc : List Co) (v s : Int) (A : Option Addr) (k c : Nat) (l : List It) (wc : World) : Prop where
 below : Below w.heap.size w wc
 box : Blk wc w.heap.size 30 #[.int .i64 v, .int .i64 s, .slice A k c]
 cols : Reads wc wc.heap.size 7 A1 k1 (cos lc)
 items : ItemsAt wc wc.heap.size A k l
 tab : Tab2 wc.heap.size wc
 le1 : k1 ≤ 40
 le2 : k ≤ 30
 ok : ItOk l
 sok : s ≤ 9223372036854775807
section
variable {w wc w' : World} {A1 A : Option Addr} {k1 k c : Nat} {lc : List Co} {v s : Int} {l : List It}
theorem LawB.on (h : LawB w A1 k1 lc v s A k c l wc) (hb : Below wc.heap.size wc w') : LawB w A1 k1 lc v s A k c l w' :=
 ⟨bon h.below hb, h.box.on hb, h.cols.on hb, h.items.on hb, h.tab.on hb, h.le1, h.le2, h.ok, h.sok⟩
theorem LawB.al (h : LawB w A1 k1 lc v s A k c l wc) (o : Obj) : LawB w A1 k1 lc v s A k c l (wc.alloc o) := h.on (bal (Below.refl _ _) o)
theorem LawB.max1 (h : LawB w A1 k1 lc v s A k c l wc) : k1 ≤ maxLen := Nat.le_trans h.le1 (by decide)
theorem LawB.max2 (h : LawB w A1 k1 lc v s A k c l wc) : k ≤ maxLen := Nat.le_trans h.le2 (by decide)
theorem LawB.baok (h : LawB w A1 k1 lc v s A k c l wc) : BaOk (v, s, l) := baOk_of h.sok h.ok
end
theorem box_put {w3 w4 : World} {b base : Nat} {x y z v s : Value} {A : Option Addr} {k c : Nat} {l : List It} (hB : Blk w3 b 30 #[x, y, z]) (hi : ItemsOwn w3 base A k c l)
  (h4 : w4 = ((w3.setCell ⟨b, 0, none⟩ v).setCell ⟨b, 1, none⟩ s).setCell ⟨b, 2, none⟩ (.slice A k c)) :
  Blk w4 b 30 #[v, s, .slice A k c] ∧ ItemsOwn w4 base A k c l ∧ (∀ B, B ≤ b → Below B w3 w4) ∧
  (∀ {base2 size n : Nat} {t : TypeId} {u : Value} {xs : List Value}, w3.ownsRow base2 t size u n xs → t ≠ 30 → w4.ownsRow base2 t size u n xs) ∧
  (∀ {base2 n2 c2 : Nat} {A2 : Option Addr} {l2 : List It}, ItemsOwn w3 base2 A2 n2 c2 l2 → ItemsOwn w4 base2 A2 n2 c2 l2) ∧
  (∀ {b2 : Nat} {t : TypeId} {cs : Array Value}, Blk w3 b2 t cs → b2 ≠ b → Blk w4 b2 t cs) := by
 subst h4
 have g0 := hB.set_ 0 v
 have g1 := g0.set_ 1 s
 have g2 := g1.set_ 2 (.slice A k c)
 simp only [List.setIfInBounds_toArray, List.set_cons_zero, List.set_cons_succ] at g0 g1 g2
 refine ⟨g2, ((hi.far hB (by decide) (by decide) 0 _).far g0 (by decide) (by decide) 1 _).far g1 (by decide) (by decide) 2 _, fun B hb => (((Below.refl B w3).setCell (p := ⟨b, 0, none⟩) hb _).setCell (p := ⟨b, 1, none⟩) hb _).setCell (p := ⟨b, 2, none⟩) hb _, fun h ht => own_far (own_far (own_far h hB ht 0 _) g0 ht 1 _) g1 ht 2 _,
  fun h => ((h.far hB (by decide) (by decide) 0 _).far g0 (by decide) (by decide) 1 _).far g1 (by decide) (by decide) 2 _, fun h hne => ?_⟩
 exact ((h.far (p := ⟨b, 0, none⟩) hne _).far (p := ⟨b, 1, none⟩) hne _).far (p := ⟨b, 2, none⟩) hne _
end Go.Proofs.YtjpjalmilfgckaaGreatDoor
namespace Go.Proofs.YtjpjalmilfgckaaGreatDoor
open Go.RowKit
structure DecV (r : Got Ba) (base : Nat) (w : World) (e v s : Int) (I : Option Addr) (k d : Nat) (l : List It) : Prop where
 items : ItemsAt w w.heap.size I k l
 max : k ≤ maxLen
 val : (e, v, s, l) = match r with | .ok b => (0, b.1, b.2.1, b.2.2) | .error er => ((er : Int), 0, 0, [])
theorem DecP.vals {r : Got Ba} {w w' : World} {e : Ending} (h : DecP r w e w') (hr : ∀ b, r = .ok b → b.2.2.length ≤ 1048576) :
  Below w.heap.size w w' ∧ ∃ er v s I k d l, e = .returned (.tuple #[.agg #[.int .i64 v, .int .i64 s, .slice I k d], .int .i64 er]) ∧ DecV r w.heap.size w' er v s I k d l := by
 obtain ⟨hb, hm⟩ := h
 refine ⟨hb, ?_⟩
 rcases r with er | b
 ·obtain ⟨rfl, -⟩ := hm
  exact ⟨_, _, _, _, _, _, [], rfl, ItemsAt.nil, Nat.zero_le _, rfl⟩
 ·obtain ⟨I, k, d, rfl, hio⟩ := hm
  refine ⟨_, _, _, _, _, _, b.2.2, rfl, hio.at_, ?_, rfl⟩
  have := hio.len
  have := hr b rfl
  simp only [maxLen]
  omega
theorem decB_rows {cs : List Co} {xs : List UInt8} (b : Ba) (h : decB cs xs = .ok b) : b.2.2.length ≤ 1048576 := (decB_only h).1.rows
theorem DecV.on {r : Got Ba} {base : Nat} {w w' : World} {e v s : Int} {I : Option Addr} {k d : Nat} {l : List It} (h : DecV r base w e v s I k d l) (hb : Below w.heap.size w w') : DecV r base w' e v s I k d l :=
 ⟨h.items.on hb, h.max, h.val⟩
set_option maxRecDepth 100000 in
set_option maxHeartbeats 4000000 in
theorem batchReads_walk (A : Option Addr) (n c : Nat) (l : List Co) (B : Option Addr) (m cb : Nat) (xs : List UInt8) (w : World) (hr : Reads w w.heap.size 7 A n (cos l)) (hn : n ≤ c) (hc : c ≤ maxLen) (hok : CoOk l) (hx : Reads w w.heap.size 1 B m (u8s xs)) (hm : m ≤ cb) (hcb : cb ≤ maxLen) (hT : Tab2 w.heap.size w) :
  Calls Tryz.prog 13 #[.slice A n c, .slice B m cb] w fun e w' => e = .returned (.bool true) ∧ Below w.heap.size w w' := by
 have Hx := Lib.hid hx
 have HT := Lib.hid hT
 clear hx hT
 go_enter Tryz.func13, Tryz.ntmps13
 go_wp2_with fail
 with_reducible refine (columns17_any A n c l _ hr hn hc).mono ?_
 rintro e w2 ⟨A1, k1, c1, rfl, hk1, o1, hb2⟩
 have HB2 := Lib.hid hb2
 have HC := Lib.hid (own_reads o1)
 generalize l.take 40 = lc at HC
 clear o1 hb2 hr
 go_wp2_with fail
 with_reducible refine (bytes17_any B m cb xs _ (Hx.out.on HB2.out) hm hcb).mono ?_
 rintro e w3 ⟨A2, k2, c2, rfl, h1, h2, o2, hb3⟩
 have HB3 := Lib.hid (bon HB2.out hb3)
 have HC := Lib.hid (HC.out.on hb3)
 have HX := Lib.hid (own_reads o2)
 obtain ⟨ys, hys⟩ : ∃ ys, xs.take 2000 = ys := ⟨_, rfl⟩
 rw [hys] at HX
 have Hys := Lib.hid hys
 have hk1m : k1 ≤ maxLen := Nat.le_trans hk1 (by decide)
 clear o2 hb3 hys
 go_wp2_with fail
 with_reducible refine (bdec_any A1 k1 c1 lc A2 k2 c2 ys _ HC.out hk1m HX.out h1 h2 (HT.out.on HB3.out)).mono ?_
 intro e w4 hm4
 obtain ⟨hb4, e1, v1, s1, I1, n1, d1, l1, rfl, hv1⟩ := hm4.vals decB_rows
 have HB4 := Lib.hid (bal (bon HB3.out hb4) (.cells #[.int .i64 v1, .int .i64 s1, .slice I1 n1 d1] 30))
 have HC4 := Lib.hid ((HC.out.on hb4).al (.cells #[.int .i64 v1, .int .i64 s1, .slice I1 n1 d1] 30))
 have HX4 := Lib.hid ((HX.out.on hb4).al (.cells #[.int .i64 v1, .int .i64 s1, .slice I1 n1 d1] 30))
 have HV1 := Lib.hid (hv1.on (bal (Below.refl _ _) (.cells #[.int .i64 v1, .int .i64 s1, .slice I1 n1 d1] 30)))
 have HP1 := Lib.hid (Blk.new w4 30 #[.int .i64 v1, .int .i64 s1, .slice I1 n1 d1])
 clear hm4 hb4 hv1 HC HX
 simp only
 go_wp2_with fail
 with_reducible refine (rdec_any A1 k1 c1 lc A2 k2 c2 ys _ HC4.out hk1m HX4.out h1 h2).mono ?_
 intro e w5 hm5
 obtain ⟨hb5, e2, v2, s2, I2, n2, d2, l2, rfl, hv2⟩ := hm5.vals decB_rows
 have HB5 := Lib.hid (bal (bon HB4.out hb5) (.cells #[.int .i64 v2, .int .i64 s2, .slice I2 n2 d2] 30))
 have HX5 := Lib.hid ((HX4.out.on hb5).al (.cells #[.int .i64 v2, .int .i64 s2, .slice I2 n2 d2] 30))
 have HV1 := Lib.hid ((HV1.out.on hb5).on (bal (Below.refl _ _) (.cells #[.int .i64 v2, .int .i64 s2, .slice I2 n2 d2] 30)))
 have HV2 := Lib.hid (hv2.on (bal (Below.refl _ _) (.cells #[.int .i64 v2, .int .i64 s2, .slice I2 n2 d2] 30)))
 have HP1 := Lib.hid ((HP1.out.on hb5).alloc (.cells #[.int .i64 v2, .int .i64 s2, .slice I2 n2 d2] 30))
 have HP2 := Lib.hid (Blk.new w5 30 #[.int .i64 v2, .int .i64 s2, .slice I2 n2 d2])
 obtain ⟨rfl, rfl, rfl, rfl⟩ : e1 = e2 ∧ v1 = v2 ∧ s1 = s2 ∧ l1 = l2 := by
  have h3 := hv2.val
  rw [← HV1.out.val] at h3
  simp only [Prod.mk.injEq] at h3
  exact ⟨h3.1.symm, h3.2.1.symm, h3.2.2.1.symm, h3.2.2.2.symm⟩
 clear hm5 hb5 hv2 HX4 HC4 HB4
 simp only
 go_wp2_with fail
 with_reducible refine (bpeek_any A2 k2 c2 ys _ HX5.out h1 h2 (HT.out.on HB5.out)).mono ?_
 obtain ⟨q, hq⟩ : ∃ q, pkV (batD ys) = q := ⟨_, rfl⟩
 rw [hq]
 have Hq := Lib.hid hq
 clear hq
 obtain ⟨q1, q2, q3, q4⟩ := q
 rintro e w6 ⟨rfl, hb6⟩
 have HB6 := Lib.hid (bon HB5.out hb6)
 have HX6 := Lib.hid (HX5.out.on hb6)
 have HV1 := Lib.hid (HV1.out.on hb6)
 have HV2 := Lib.hid (HV2.out.on hb6)
 have HP1 := Lib.hid (HP1.out.on hb6)
 have HP2 := Lib.hid (HP2.out.on hb6)
 clear hb6 HX5 HB5
 simp only
 go_wp2_with fail
 with_reducible refine (rpeek_any A2 k2 c2 ys _ HX6.out h1 h2).mono ?_
 rw [Hq.out]
 rintro e w7 ⟨rfl, hb7⟩
 have HB7 := Lib.hid (bon HB6.out hb7)
 have HX7 := Lib.hid (HX6.out.on hb7)
 have HV1 := Lib.hid (HV1.out.on hb7)
 have HV2 := Lib.hid (HV2.out.on hb7)
 have HP1 := Lib.hid (HP1.out.on hb7)
 have HP2 := Lib.hid (HP2.out.on hb7)
 clear hb7 HX6 HB6
 simp only
 have a0 := HP1.out.cell 0
 have a1 := HP1.out.cell 1
 have a2 := HP1.out.cell 2
 have b0 := HP2.out.cell 0
 have b1 := HP2.out.cell 1
 have b2 := HP2.out.cell 2
 go_wp2_with fail
 with_reducible refine (rsame17_any v1 s1 I1 n1 d1 l1 v1 s1 I2 n2 d2 l1 _ HV1.out.items HV2.out.items HV1.out.max).mono ?_
 rw [sameBa_self]
 rintro e w8 ⟨rfl, hb8⟩
 have HB8 := Lib.hid (bon HB7.out hb8)
 have HX8 := Lib.hid (HX7.out.on hb8)
 clear hb8 a0 a1 a2 b0 b1 b2 HX7 HB7
 have t1 : (e1 == e1) = true := by simp
 have t2 : (q1 == q1) = true := by simp
 have t3 : (q2 == q2) = true := by simp
 have t4 : (q3 == q3) = true := by simp
 have t5 : (q4 == q4) = true := by simp
 go_wp2_with fail
 with_reducible refine (bytes17_any B m cb xs _ (Hx.out.on HB8.out) hm hcb).mono ?_
 rw [Hys.out]
 rintro e w9 ⟨A9, k9, c9, rfl, -, -, o9, hb9⟩
 have HB9 := Lib.hid (bon HB8.out hb9)
 have HX9 := Lib.hid (HX8.out.on hb9)
 have HY9 := Lib.hid (own_reads o9)
 clear o9 hb9 HX8 HB8
 go_wp2_with fail
 with_reducible refine (eq_yes A2 A9 k2 c2 k9 c9 ys ys _ HX9.out HY9.out rfl).mono ?_
 rintro e w10 ⟨rfl, rfl⟩
 go_wp2_with fail
 with_reducible refine (bworks_yes _ (HT.out.on HB9.out)).mono ?_
 rintro e w11 ⟨rfl, hb11⟩
 have HB11 := Lib.hid (bon HB9.out hb11)
 clear hb11
 go_wp2
 go_ret
 exact ⟨rfl, HB11.out⟩
end Go.Proofs.YtjpjalmilfgckaaGreatDoor
namespace Go.Proofs.YtjpjalmilfgckaaGreatDoor
open Go.RowKit
def encO (E : Int) (bs : List UInt8) : List UInt8 := if E = 0 then bs else []
theorem EncP.vals {E : Int} {bs : List UInt8} {w w' : World} {e : Ending} (h : EncP E bs w e w') : Below w.heap.size w w' ∧ ∃ A n c, e = .returned (.tuple #[.slice A n c, .int .i64 E]) ∧ Reads w' w'.heap.size 1 A n (u8s (encO E bs)) := by
 obtain ⟨hb, ⟨rfl, A, c, rfl, ho⟩ | ⟨h0, rfl⟩⟩ := h
 ·exact ⟨hb, _, _, _, rfl, own_reads ho⟩
 ·refine ⟨hb, _, _, _, rfl, ?_⟩
  unfold encO
  rw [if_neg h0]
  exact Reads.none_
set_option maxRecDepth 100000 in
set_option maxHeartbeats 8000000 in
theorem batchWrites_walk (A : Option Addr) (n c : Nat) (l : List Co) (v s : Int) (I : Option Addr) (m d : Nat) (li : List It) (v2 s2 : Int) (I2 : Option Addr) (m2 d2 : Nat) (lj : List It) (w : World) (hr : Reads w w.heap.size 7 A n (cos l)) (hn : n ≤ c) (hc : c ≤ maxLen) (hok : CoOk l)
  (hv : -9223372036854775808 ≤ v ∧ v ≤ 9223372036854775807) (hs : -9223372036854775808 ≤ s ∧ s ≤ 9223372036854775807) (hi : ItemsAt w w.heap.size I m li) (hm : m ≤ d) (hd : d ≤ maxLen) (hit : ItOk li)
  (hv2 : -9223372036854775808 ≤ v2 ∧ v2 ≤ 9223372036854775807) (hs2 : -9223372036854775808 ≤ s2 ∧ s2 ≤ 9223372036854775807) (hi2 : ItemsAt w w.heap.size I2 m2 lj) (hm2 : m2 ≤ d2) (hd2 : d2 ≤ maxLen) (hit2 : ItOk lj) (hT : Tab2 w.heap.size w) :
  Calls Tryz.prog 9 #[.slice A n c, .agg #[.int .i64 v, .int .i64 s, .slice I m d], .agg #[.int .i64 v2, .int .i64 s2, .slice I2 m2 d2]] w fun e w' => e = .returned (.bool true) ∧ Below w.heap.size w w' := by
 have Hr := Lib.hid hr
 have HT := Lib.hid hT
 have Hi := Lib.hid hi
 have Hi2 := Lib.hid hi2
 have Hit := Lib.hid hit
 have Hit2 := Lib.hid hit2
 have Hs := Lib.hid hs.2
 have hmm : m ≤ maxLen := Nat.le_trans hm hd
 have hmm2 : m2 ≤ maxLen := Nat.le_trans hm2 hd2
 have HP := Lib.hid ((Blk.new w 30 #[.int .i64 v, .int .i64 s, .slice I m d]).alloc (.cells #[.int .i64 v2, .int .i64 s2, .slice I2 m2 d2] 30))
 have HQ := Lib.hid (Blk.new (w.alloc (.cells #[.int .i64 v, .int .i64 s, .slice I m d] 30)) 30 #[.int .i64 v2, .int .i64 s2, .slice I2 m2 d2])
 rw [show (w.alloc (.cells #[.int .i64 v, .int .i64 s, .slice I m d] 30)).heap.size = w.heap.size + 1 by simp] at HQ
 have HB := Lib.hid (bal (bal (Below.refl w.heap.size w) (.cells #[.int .i64 v, .int .i64 s, .slice I m d] 30)) (.cells #[.int .i64 v2, .int .i64 s2, .slice I2 m2 d2] 30))
 clear hr hT hi hit hs hv hm hd hok hv2 hs2 hi2 hm2 hd2 hit2
 go_enter Tryz.func9, Tryz.ntmps9
 go_wp2
 generalize hW : (w.alloc (.cells #[.int .i64 v, .int .i64 s, .slice I m d] 30)).alloc (.cells #[.int .i64 v2, .int .i64 s2, .slice I2 m2 d2] 30) = W1 at *
 clear hW
 have HL0 := Lib.hid (show ∀ w', Below W1.heap.size W1 w' → w'.cell? ⟨w.heap.size, 0, none⟩ = some (.int .i64 v) from fun w' h => (HP.out.on h).cell 0)
 have HL1 := Lib.hid (show ∀ w', Below W1.heap.size W1 w' → w'.cell? ⟨w.heap.size, 1, none⟩ = some (.int .i64 s) from fun w' h => (HP.out.on h).cell 1)
 have HL2 := Lib.hid (show ∀ w', Below W1.heap.size W1 w' → w'.cell? ⟨w.heap.size, 2, none⟩ = some (.slice I m d) from fun w' h => (HP.out.on h).cell 2)
 have HM0 := Lib.hid (show ∀ w', Below W1.heap.size W1 w' → w'.cell? ⟨w.heap.size + 1, 0, none⟩ = some (.int .i64 v2) from fun w' h => (HQ.out.on h).cell 0)
 have HM1 := Lib.hid (show ∀ w', Below W1.heap.size W1 w' → w'.cell? ⟨w.heap.size + 1, 1, none⟩ = some (.int .i64 s2) from fun w' h => (HQ.out.on h).cell 1)
 have HM2 := Lib.hid (show ∀ w', Below W1.heap.size W1 w' → w'.cell? ⟨w.heap.size + 1, 2, none⟩ = some (.slice I2 m2 d2) from fun w' h => (HQ.out.on h).cell 2)
 have hS : Below W1.heap.size W1 W1.drew := (Below.refl _ _).drew
 refine wp_region_phase (fun w' => Below W1.heap.size W1 w') [0, 2, 4] [(0, false), (2, false), (4, false), (1, true), (3, true), (5, true)] (fun _ => True) [(6, false), (7, true), (8, true)] (by kernel_rfl) (by kernel_rfl) (by kernel_rfl) (fun d _ _ _ _ h => by cases d <;> exact h) ?_
 refine phase_pure (v := ?_) rfl rfl (by simp [Region.wanted, yielded]) hS ?_ ?_
 rotate_left
 ·intro w hw; go_simp; try with_reducible rfl
 try simp only [Act.put, zpA, zpB, zpC]
 refine phase_pure (v := ?_) rfl rfl (by simp [Region.wanted, yielded]) hS ?_ ?_
 rotate_left
 ·intro w hw; have c0 := HL0.out w hw; have c1 := HL1.out w hw; have c2 := HL2.out w hw; clear hw; go_simp; try with_reducible rfl
 try simp only [Act.put, zpA, zpB, zpC]
 refine phase_pure (v := ?_) rfl rfl (by simp [Region.wanted, yielded]) hS ?_ ?_
 rotate_left
 ·intro w hw; have c0 := HM0.out w hw; have c1 := HM1.out w hw; have c2 := HM2.out w hw; clear hw; go_simp; try with_reducible rfl
 try simp only [Act.put, zpA, zpB, zpC]
 refine phase_eff1 rfl (by simp [Region.wanted, yielded]) fun K hK => ?_
 go_simp
 with_reducible refine (columns17_any A n c l _ (Hr.out.on (bon HB.out hS)) hn hc).mono ?_
 rintro e w2 ⟨A1, k1, c1, rfl, hk1, o1, hb2⟩
 have HS2 := Lib.hid (bon hS hb2)
 have HO := Lib.hid o1
 clear o1 hb2
 refine held_go hK (by exact HS2.out) fun hS => ?_
 clear hK K
 try simp only [Act.put, zpA, zpB, zpC]
 refine phase_eff1 rfl (by simp [Region.wanted, yielded]) fun K hK => ?_
 go_simp
 with_reducible refine (cut17_any v s I m d li _ (Hi.out.on (bon HB.out HS2.out)) hmm Hit.out).mono ?_
 rintro e w3 ⟨A3, k3, c3, rfl, o3, hb3⟩
 have HS3 := Lib.hid (bon HS2.out hb3)
 have HO := Lib.hid (own_below HO.out hb3)
 have HIo := Lib.hid o3
 clear o3 hb3
 refine held_go hK (by exact HS3.out) fun hS => ?_
 clear hK K
 try simp only [Act.put, zpA, zpB, zpC]
 refine phase_eff1 rfl (by simp [Region.wanted, yielded]) fun K hK => ?_
 go_simp
 with_reducible refine (cut17_any v2 s2 I2 m2 d2 lj _ (Hi2.out.on (bon HB.out HS3.out)) hmm2 Hit2.out).mono ?_
 rintro e w3b ⟨A4, k4, c4, rfl, o4, hb4⟩
 have HS4 := Lib.hid (bon HS3.out hb4)
 have HO := Lib.hid (own_below HO.out hb4)
 have HIo := Lib.hid (HIo.out.below hb4)
 have HIp := Lib.hid o4
 clear o4 hb4
 refine held_go hK (by exact HS4.out) fun hS => ?_
 clear hK K
 try simp only [Act.put, zpA, zpB, zpC]
 refine phase_end ?_
 have HP3 := Lib.hid (HP.out.on HS4.out)
 have HQ3 := Lib.hid (HQ.out.on HS4.out)
 have HBc := Lib.hid (bon HB.out HS4.out)
 clear hS HL0 HL1 HL2 HM0 HM1 HM2 HS2 HS3 HP HQ
 have hS : True := trivial
 refine held_pure (v := ?_) rfl rfl (by simp [Region.wanted, yielded]) hS ?_ ?_
 rotate_left
 ·intro w hw; go_simp; try with_reducible rfl
 try simp only [Act.put, zpA, zpB, zpC]
 have a0 := HP3.out.cell 0
 have a1 := HP3.out.cell 1
 have a2 := HP3.out.cell 2
 have f0 := HP3.out.frozen 0
 have f1 := HP3.out.frozen 1
 have f2 := HP3.out.frozen 2
 refine held_eff1 rfl (by simp [Region.wanted, yielded]) fun K hK => ?_
 go_simp
 clear a0 a1 a2 f0 f1 f2
 obtain ⟨w4, hw4⟩ : ∃ w4, w4 = ((w3b.setCell ⟨w.heap.size, 0, none⟩ (.int .i64 v)).setCell ⟨w.heap.size, 1, none⟩ (.int .i64 s)).setCell ⟨w.heap.size, 2, none⟩ (.slice A3 k3 c3) := ⟨_, rfl⟩
 obtain ⟨g1, g2, g3, g4, g5, g6⟩ := box_put HP3.out HIo.out hw4
 rw [← hw4]
 have HQ4 := Lib.hid (g6 HQ3.out (by omega))
 have HBc := Lib.hid (HBc.out.trans (g3 _ (Nat.le_refl _)))
 have HO := Lib.hid (g4 HO.out (by decide))
 have HIo := Lib.hid g2
 have HIp := Lib.hid (g5 HIp.out)
 have HP4 := Lib.hid g1
 clear g1 g2 g3 g4 g5 g6 HP3 HQ3 HS4 hw4
 refine held_go hK (by exact trivial) fun hS => ?_
 clear hK K
 try simp only [Act.put, zpA, zpB, zpC]
 have a0 := HQ4.out.cell 0
 have a1 := HQ4.out.cell 1
 have a2 := HQ4.out.cell 2
 have f0 := HQ4.out.frozen 0
 have f1 := HQ4.out.frozen 1
 have f2 := HQ4.out.frozen 2
 refine held_eff1 rfl (by simp [Region.wanted, yielded]) fun K hK => ?_
 go_simp
 clear a0 a1 a2 f0 f1 f2
 obtain ⟨w5, hw5⟩ : ∃ w5, w5 = ((w4.setCell ⟨w.heap.size + 1, 0, none⟩ (.int .i64 v2)).setCell ⟨w.heap.size + 1, 1, none⟩ (.int .i64 s2)).setCell ⟨w.heap.size + 1, 2, none⟩ (.slice A4 k4 c4) := ⟨_, rfl⟩
 obtain ⟨g1, g2, g3, g4, g5, g6⟩ := box_put HQ4.out HIp.out hw5
 rw [← hw5]
 have hk3 : k3 ≤ 30 := by
  have := HIo.out.len
  have := cutl_len li
  omega
 have hk4 : k4 ≤ 30 := by
  have := HIp.out.len
  have := cutl_len lj
  omega
 have hbw := g3 w.heap.size (by omega)
 have H := Lib.hid (show LawB w A1 k1 (l.take 40) v s A3 k3 c3 (cutl li) w5 from ⟨HBc.out.trans hbw, g6 HP4.out (by omega), own_reads (g4 HO.out (by decide)), (g5 HIo.out).at_, HT.out.on (HBc.out.trans hbw), hk1, hk3, cutl_ok Hit.out, Hs.out⟩)
 have HQ := Lib.hid g1
 have HJ := Lib.hid g2.at_
 have HC3 := Lib.hid HIo.out.caps
 generalize l.take 40 = lc at H
 clear hw5 g1 g2 g3 g4 g5 g6 HP4 HQ4 HO HIo HIp HBc hbw
 refine held_go hK (by exact trivial) fun hS => ?_
 clear hK K
 try simp only [Act.put, zpA, zpB, zpC]
 refine held_end ?_
 clear HB Hr Hi Hi2 Hit Hit2 Hs hS
 have Hcut := Lib.hid (cutl_idem li)
 generalize cutl li = la at *
 generalize cutl lj = lb at *
 have a0 := H.out.box.cell 0
 have a1 := H.out.box.cell 1
 have a2 := H.out.box.cell 2
 go_wp2_with fail
 with_reducible refine (cut17_any v s A3 k3 c3 la _ H.out.items H.out.max2 H.out.ok).mono ?_
 rw [Hcut.out]
 rintro e w6 ⟨A6, k6, c6, rfl, o6, hb6⟩
 have H := Lib.hid ((H.out.on hb6).al (.cells #[.int .i64 v, .int .i64 s, .slice A6 k6 c6] 30))
 have HQ := Lib.hid ((HQ.out.on hb6).alloc (.cells #[.int .i64 v, .int .i64 s, .slice A6 k6 c6] 30))
 have HJ := Lib.hid ((HJ.out.on hb6).al (.cells #[.int .i64 v, .int .i64 s, .slice A6 k6 c6] 30))
 have HW := Lib.hid (o6.at_.al (.cells #[.int .i64 v, .int .i64 s, .slice A6 k6 c6] 30))
 have HR := Lib.hid (Blk.new w6 30 #[.int .i64 v, .int .i64 s, .slice A6 k6 c6])
 obtain ⟨g6, hg6⟩ : ∃ g6, g6 = w6.heap.size := ⟨_, rfl⟩
 rw [← hg6] at HR
 clear a0 a1 a2 hb6 o6 HC3
 have a0 := H.out.box.cell 0
 have a1 := H.out.box.cell 1
 have a2 := H.out.box.cell 2
 go_wp2_with fail
 rw [← hg6]
 clear hg6
 with_reducible refine (benc_any A1 k1 c1 lc v s A3 k3 c3 la _ H.out.cols H.out.max1 H.out.items H.out.max2 H.out.baok H.out.ok H.out.tab).mono ?_
 intro e w7 hm7
 obtain ⟨hb7, A7, n7, c7, rfl, hr7⟩ := hm7.vals
 have H := Lib.hid (H.out.on hb7)
 have HQ := Lib.hid (HQ.out.on hb7)
 have HJ := Lib.hid (HJ.out.on hb7)
 have HW := Lib.hid (HW.out.on hb7)
 have HR := Lib.hid (HR.out.on hb7)
 have HX := Lib.hid hr7
 clear a0 a1 a2 hm7 hb7 hr7
 have a0 := H.out.box.cell 0
 have a1 := H.out.box.cell 1
 have a2 := H.out.box.cell 2
 simp only
 go_wp2_with fail
 with_reducible refine (renc_any A1 k1 c1 lc v s A3 k3 c3 la _ H.out.cols H.out.max1 H.out.items H.out.max2 H.out.baok H.out.ok).mono ?_
 intro e w8 hm8
 obtain ⟨hb8, A8, n8, c8, rfl, hr8⟩ := hm8.vals
 have H := Lib.hid (H.out.on hb8)
 have HQ := Lib.hid (HQ.out.on hb8)
 have HJ := Lib.hid (HJ.out.on hb8)
 have HW := Lib.hid (HW.out.on hb8)
 have HR := Lib.hid (HR.out.on hb8)
 have HX := Lib.hid (HX.out.on hb8)
 have HY := Lib.hid hr8
 clear a0 a1 a2 hm8 hb8 hr8
 obtain ⟨E, hE⟩ : ∃ E, batE lc (v, s, la) = E := ⟨_, rfl⟩
 rw [hE] at HX HY ⊢
 have HE := Lib.hid hE
 clear hE
 generalize encO E (encA lc (v, s, la)) = xs at HX HY
 simp only
 go_wp2
 have HL0 := Lib.hid (show ∀ w', Below w8.heap.size w8 w' → w'.cell? ⟨w.heap.size, 0, none⟩ = some (.int .i64 v) from fun w' h => (H.out.box.on h).cell 0)
 have HL1 := Lib.hid (show ∀ w', Below w8.heap.size w8 w' → w'.cell? ⟨w.heap.size, 1, none⟩ = some (.int .i64 s) from fun w' h => (H.out.box.on h).cell 1)
 have HL2 := Lib.hid (show ∀ w', Below w8.heap.size w8 w' → w'.cell? ⟨w.heap.size, 2, none⟩ = some (.slice A3 k3 c3) from fun w' h => (H.out.box.on h).cell 2)
 have HM0 := Lib.hid (show ∀ w', Below w8.heap.size w8 w' → w'.cell? ⟨w.heap.size + 1, 0, none⟩ = some (.int .i64 v2) from fun w' h => (HQ.out.on h).cell 0)
 have HM1 := Lib.hid (show ∀ w', Below w8.heap.size w8 w' → w'.cell? ⟨w.heap.size + 1, 1, none⟩ = some (.int .i64 s2) from fun w' h => (HQ.out.on h).cell 1)
 have HM2 := Lib.hid (show ∀ w', Below w8.heap.size w8 w' → w'.cell? ⟨w.heap.size + 1, 2, none⟩ = some (.slice A4 k4 c4) from fun w' h => (HQ.out.on h).cell 2)
 have HN0 := Lib.hid (show ∀ w', Below w8.heap.size w8 w' → w'.cell? ⟨g6, 0, none⟩ = some (.int .i64 v) from fun w' h => (HR.out.on h).cell 0)
 have HN1 := Lib.hid (show ∀ w', Below w8.heap.size w8 w' → w'.cell? ⟨g6, 1, none⟩ = some (.int .i64 s) from fun w' h => (HR.out.on h).cell 1)
 have HN2 := Lib.hid (show ∀ w', Below w8.heap.size w8 w' → w'.cell? ⟨g6, 2, none⟩ = some (.slice A6 k6 c6) from fun w' h => (HR.out.on h).cell 2)
 clear HQ HR
 have dE : (E == E) = true := by simp
 obtain ⟨q, hq⟩ : ∃ q, sameBa (v, s, la) (v2, s2, lb) = q := ⟨_, rfl⟩
 have Hq := Lib.hid hq
 have dq : (q == q) = true := by simp
 clear hq
 have hS : Below w8.heap.size w8 w8.drew := (Below.refl _ _).drew
 refine wp_region_keep (fun w' => Below w8.heap.size w8 w') [(0, false), (1, false), (2, true), (3, false), (4, false), (5, false), (6, false), (7, false), (8, false), (9, false), (10, false), (12, false), (11, true), (13, false), (14, false), (15, false), (16, false), (17, false), (19, false), (20, false), (18, true), (21, true), (22, false), (23, false), (24, false), (25, false), (26, false), (27, true), (28, false), (29, false), (30, true), (31, false), (32, false)] (by kernel_rfl) (by kernel_rfl) (by kernel_rfl) (fun d _ _ _ _ h => by cases d <;> exact h) ?_
 iterate 2
  refine held_pure (v := ?_) rfl rfl (by simp [Region.wanted, yielded]) hS ?_ ?_
  rotate_left
  ·intro w hw; go_simp; try with_reducible rfl
  try simp only [Act.put, zpA, zpB, zpC]
 refine held_eff1 rfl (by simp [Region.wanted, yielded]) fun K hK => ?_
 go_simp
 with_reducible refine (eq_yes A7 A8 n7 c7 n8 c8 xs xs _ (HX.out.on hS) (HY.out.on hS) rfl).mono ?_
 rintro e w9 ⟨rfl, rfl⟩
 refine held_go hK (by exact hS) fun hS => ?_
 clear hK K
 try simp only [Act.put, zpA, zpB, zpC]
 iterate 7
  refine held_pure (v := ?_) rfl rfl (by simp [Region.wanted, yielded]) hS ?_ ?_
  rotate_left
  ·intro w hw; go_simp; try with_reducible rfl
  try simp only [Act.put, zpA, zpB, zpC]
 refine held_pure (v := ?_) rfl rfl (by simp [Region.wanted, yielded]) hS ?_ ?_
 rotate_left
 ·intro w hw; have c0 := HL0.out w hw; have c1 := HL1.out w hw; have c2 := HL2.out w hw; clear hw; go_simp; try with_reducible rfl
 try simp only [Act.put, zpA, zpB, zpC]
 refine held_pure (v := ?_) rfl rfl (by simp [Region.wanted, yielded]) hS ?_ ?_
 rotate_left
 ·intro w hw; go_simp; try with_reducible rfl
 try simp only [Act.put, zpA, zpB, zpC]
 refine held_eff1 rfl (by simp [Region.wanted, yielded]) fun K hK => ?_
 go_simp
 with_reducible refine (bCheck_any A1 k1 c1 lc v s A3 k3 c3 la _ (H.out.on hS).cols H.out.max1 (H.out.on hS).items H.out.max2 (H.out.on hS).tab.tabs).mono ?_
 rw [HE.out]
 rintro e w10 ⟨rfl, hb10⟩
 have HS10 := Lib.hid (bon hS hb10)
 clear hb10
 refine held_go hK (by exact HS10.out) fun hS => ?_
 clear hK K
 try simp only [Act.put, zpA, zpB, zpC]
 iterate 3
  refine held_pure (v := ?_) rfl rfl (by simp [Region.wanted, yielded]) hS ?_ ?_
  rotate_left
  ·intro w hw; go_simp; try with_reducible rfl
  try simp only [Act.put, zpA, zpB, zpC]
 refine held_pure (v := ?_) rfl rfl (by simp [Region.wanted, yielded]) hS ?_ ?_
 rotate_left
 ·intro w hw; have c0 := HL0.out w hw; have c1 := HL1.out w hw; have c2 := HL2.out w hw; clear hw; go_simp; try with_reducible rfl
 try simp only [Act.put, zpA, zpB, zpC]
 refine held_pure (v := ?_) rfl rfl (by simp [Region.wanted, yielded]) hS ?_ ?_
 rotate_left
 ·intro w hw; have c0 := HM0.out w hw; have c1 := HM1.out w hw; have c2 := HM2.out w hw; clear hw; go_simp; try with_reducible rfl
 try simp only [Act.put, zpA, zpB, zpC]
 refine held_pure (v := ?_) rfl rfl (by simp [Region.wanted, yielded]) hS ?_ ?_
 rotate_left
 ·intro w hw; have c0 := HL0.out w hw; have c1 := HL1.out w hw; have c2 := HL2.out w hw; clear hw; go_simp; try with_reducible rfl
 try simp only [Act.put, zpA, zpB, zpC]
 refine held_pure (v := ?_) rfl rfl (by simp [Region.wanted, yielded]) hS ?_ ?_
 rotate_left
 ·intro w hw; have c0 := HM0.out w hw; have c1 := HM1.out w hw; have c2 := HM2.out w hw; clear hw; go_simp; try with_reducible rfl
 try simp only [Act.put, zpA, zpB, zpC]
 refine held_eff1 rfl (by simp [Region.wanted, yielded]) fun K hK => ?_
 go_simp
 with_reducible refine (bsame_any v s A3 k3 c3 la v2 s2 A4 k4 c4 lb _ (H.out.on hS).items (HJ.out.on hS) H.out.max2).mono ?_
 rw [Hq.out]
 rintro e w11 ⟨rfl, hb11⟩
 have HS11 := Lib.hid (bon hS hb11)
 clear hb11
 refine held_go hK (by exact HS11.out) fun hS => ?_
 clear hK K
 try simp only [Act.put, zpA, zpB, zpC]
 refine held_eff1 rfl (by simp [Region.wanted, yielded]) fun K hK => ?_
 go_simp
 with_reducible refine (rsame17_any v s A3 k3 c3 la v2 s2 A4 k4 c4 lb _ (H.out.on hS).items (HJ.out.on hS) H.out.max2).mono ?_
 rw [Hq.out]
 rintro e w12 ⟨rfl, hb12⟩
 have HS12 := Lib.hid (bon hS hb12)
 clear hb12
 refine held_go hK (by exact HS12.out) fun hS => ?_
 clear hK K
 try simp only [Act.put, zpA, zpB, zpC]
 iterate 3
  refine held_pure (v := ?_) rfl rfl (by simp [Region.wanted, yielded]) hS ?_ ?_
  rotate_left
  ·intro w hw; go_simp; try with_reducible rfl
  try simp only [Act.put, zpA, zpB, zpC]
 refine held_pure (v := ?_) rfl rfl (by simp [Region.wanted, yielded]) hS ?_ ?_
 rotate_left
 ·intro w hw; have c0 := HL0.out w hw; have c1 := HL1.out w hw; have c2 := HL2.out w hw; clear hw; go_simp; try with_reducible rfl
 try simp only [Act.put, zpA, zpB, zpC]
 refine held_pure (v := ?_) rfl rfl (by simp [Region.wanted, yielded]) hS ?_ ?_
 rotate_left
 ·intro w hw; have c0 := HN0.out w hw; have c1 := HN1.out w hw; have c2 := HN2.out w hw; clear hw; go_simp; try with_reducible rfl
 try simp only [Act.put, zpA, zpB, zpC]
 refine held_eff1 rfl (by simp [Region.wanted, yielded]) fun K hK => ?_
 go_simp
 with_reducible refine (bsame_any v s A3 k3 c3 la v s A6 k6 c6 la _ (H.out.on hS).items (HW.out.on hS) H.out.max2).mono ?_
 rw [sameBa_self]
 rintro e w13 ⟨rfl, hb13⟩
 have HS13 := Lib.hid (bon hS hb13)
 clear hb13
 refine held_go hK (by exact HS13.out) fun hS => ?_
 clear hK K
 try simp only [Act.put, zpA, zpB, zpC]
 iterate 2
  refine held_pure (v := ?_) rfl rfl (by simp [Region.wanted, yielded]) hS ?_ ?_
  rotate_left
  ·intro w hw; go_simp; try with_reducible rfl
  try simp only [Act.put, zpA, zpB, zpC]
 refine held_eff1 rfl (by simp [Region.wanted, yielded]) fun K hK => ?_
 go_simp
 with_reducible refine (bworks_yes _ (H.out.on hS).tab).mono ?_
 rintro e w14 ⟨rfl, hb14⟩
 have HS14 := Lib.hid (bon hS hb14)
 clear hb14
 refine held_go hK (by exact HS14.out) fun hS => ?_
 clear hK K
 try simp only [Act.put, zpA, zpB, zpC]
 iterate 2
  refine held_pure (v := ?_) rfl rfl (by simp [Region.wanted, yielded]) hS ?_ ?_
  rotate_left
  ·intro w hw; go_simp; try with_reducible rfl
  try simp only [Act.put, zpA, zpB, zpC]
 refine held_end ?_
 go_wp2
 go_ret
 exact ⟨rfl, bon H.out.below HS14.out⟩
end Go.Proofs.YtjpjalmilfgckaaGreatDoor
namespace Go.Proofs.YtjpjalmilfgckaaGreatDoor
open Go.RowKit
set_option maxRecDepth 100000 in
set_option maxHeartbeats 4000000 in
theorem batchBack_walk (A : Option Addr) (n c : Nat) (l : List Co) (v s : Int) (I : Option Addr) (m d : Nat) (li : List It) (w : World) (hr : Reads w w.heap.size 7 A n (cos l)) (hn : n ≤ c) (hc : c ≤ maxLen) (hok : CoOk l)
  (hv : -9223372036854775808 ≤ v ∧ v ≤ 9223372036854775807) (hs : -9223372036854775808 ≤ s ∧ s ≤ 9223372036854775807) (hi : ItemsAt w w.heap.size I m li) (hm : m ≤ d) (hd : d ≤ maxLen) (hit : ItOk li) (hT : Tab2 w.heap.size w) :
  Calls Tryz.prog 11 #[.slice A n c, .agg #[.int .i64 v, .int .i64 s, .slice I m d]] w fun e w' => e = .returned (.bool true) ∧ Below w.heap.size w w' := by
 have Hr := Lib.hid hr
 have HT := Lib.hid hT
 have Hi := Lib.hid hi
 have Hit := Lib.hid hit
 have Hs := Lib.hid hs.2
 have hmm : m ≤ maxLen := Nat.le_trans hm hd
 have HP := Lib.hid (Blk.new w 30 #[.int .i64 v, .int .i64 s, .slice I m d])
 have HB := Lib.hid (bal (Below.refl w.heap.size w) (.cells #[.int .i64 v, .int .i64 s, .slice I m d] 30))
 clear hr hT hi hit hs hv hm hd hok
 go_enter Tryz.func11, Tryz.ntmps11
 go_wp2
 generalize hW : w.alloc (.cells #[.int .i64 v, .int .i64 s, .slice I m d] 30) = W1 at *
 clear hW
 have HL0 := Lib.hid (show ∀ w', Below W1.heap.size W1 w' → w'.cell? ⟨w.heap.size, 0, none⟩ = some (.int .i64 v) from fun w' h => (HP.out.on h).cell 0)
 have HL1 := Lib.hid (show ∀ w', Below W1.heap.size W1 w' → w'.cell? ⟨w.heap.size, 1, none⟩ = some (.int .i64 s) from fun w' h => (HP.out.on h).cell 1)
 have HL2 := Lib.hid (show ∀ w', Below W1.heap.size W1 w' → w'.cell? ⟨w.heap.size, 2, none⟩ = some (.slice I m d) from fun w' h => (HP.out.on h).cell 2)
 have hS : Below W1.heap.size W1 W1.drew := (Below.refl _ _).drew
 refine wp_region_phase (fun w' => Below W1.heap.size W1 w') [0, 2] [(0, false), (2, false), (1, true), (3, true)] (fun _ => True) [(4, false), (5, true)] (by kernel_rfl) (by kernel_rfl) (by kernel_rfl) (fun d _ _ _ _ h => by cases d <;> exact h) ?_
 refine phase_pure (v := ?_) rfl rfl (by simp [Region.wanted, yielded]) hS ?_ ?_
 rotate_left
 ·intro w hw; go_simp; try with_reducible rfl
 try simp only [Act.put, zpA, zpB, zpC]
 refine phase_pure (v := ?_) rfl rfl (by simp [Region.wanted, yielded]) hS ?_ ?_
 rotate_left
 ·intro w hw; have c0 := HL0.out w hw; have c1 := HL1.out w hw; have c2 := HL2.out w hw; clear hw; go_simp; try with_reducible rfl
 try simp only [Act.put, zpA, zpB, zpC]
 refine phase_eff1 rfl (by simp [Region.wanted, yielded]) fun K hK => ?_
 go_simp
 with_reducible refine (columns17_any A n c l _ (Hr.out.on (bon HB.out hS)) hn hc).mono ?_
 rintro e w2 ⟨A1, k1, c1, rfl, hk1, o1, hb2⟩
 have HS2 := Lib.hid (bon hS hb2)
 have HO := Lib.hid o1
 clear o1 hb2
 refine held_go hK (by exact HS2.out) fun hS => ?_
 clear hK K
 try simp only [Act.put, zpA, zpB, zpC]
 refine phase_eff1 rfl (by simp [Region.wanted, yielded]) fun K hK => ?_
 go_simp
 with_reducible refine (cut17_any v s I m d li _ (Hi.out.on (bon HB.out HS2.out)) hmm Hit.out).mono ?_
 rintro e w3 ⟨A3, k3, c3, rfl, o3, hb3⟩
 have HS3 := Lib.hid (bon HS2.out hb3)
 have HO := Lib.hid (own_below HO.out hb3)
 have HIo := Lib.hid o3
 clear o3 hb3
 refine held_go hK (by exact HS3.out) fun hS => ?_
 clear hK K
 try simp only [Act.put, zpA, zpB, zpC]
 refine phase_end ?_
 have HP3 := Lib.hid (HP.out.on HS3.out)
 have HBc := Lib.hid (bon HB.out HS3.out)
 clear hS HL0 HL1 HL2 HS2 HP
 have hS : True := trivial
 refine held_pure (v := ?_) rfl rfl (by simp [Region.wanted, yielded]) hS ?_ ?_
 rotate_left
 ·intro w hw; go_simp; try with_reducible rfl
 try simp only [Act.put, zpA, zpB, zpC]
 have a0 := HP3.out.cell 0
 have a1 := HP3.out.cell 1
 have a2 := HP3.out.cell 2
 have f0 := HP3.out.frozen 0
 have f1 := HP3.out.frozen 1
 have f2 := HP3.out.frozen 2
 refine held_eff1 rfl (by simp [Region.wanted, yielded]) fun K hK => ?_
 go_simp
 clear a0 a1 a2 f0 f1 f2
 obtain ⟨w4, hw4⟩ : ∃ w4, w4 = ((w3.setCell ⟨w.heap.size, 0, none⟩ (.int .i64 v)).setCell ⟨w.heap.size, 1, none⟩ (.int .i64 s)).setCell ⟨w.heap.size, 2, none⟩ (.slice A3 k3 c3) := ⟨_, rfl⟩
 obtain ⟨g1, g2, g3, g4, g5, g6⟩ := box_put HP3.out HIo.out hw4
 skip
 rw [← hw4]
 have hk3 : k3 ≤ 30 := by
  have := HIo.out.len
  have := cutl_len li
  omega
 have H := Lib.hid (show LawB w A1 k1 (l.take 40) v s A3 k3 c3 (cutl li) w4 from ⟨HBc.out.trans (g3 _ (Nat.le_refl _)), g1, own_reads (g4 HO.out (by decide)), g2.at_, HT.out.on (HBc.out.trans (g3 _ (Nat.le_refl _))), hk1, hk3, cutl_ok Hit.out, Hs.out⟩)
 generalize l.take 40 = lc at H
 clear hw4 g1 g2 g3 g4 g5 g6 HP3 HO HIo HBc HS3
 refine held_go hK (by exact trivial) fun hS => ?_
 clear hK K
 try simp only [Act.put, zpA, zpB, zpC]
 refine held_end ?_
 clear HB Hr Hi Hit Hs
 generalize cutl li = lb at H
 have a0 := H.out.box.cell 0
 have a1 := H.out.box.cell 1
 have a2 := H.out.box.cell 2
 go_wp2_with fail
 with_reducible refine (benc_any A1 k1 c1 lc v s A3 k3 c3 lb _ H.out.cols H.out.max1 H.out.items H.out.max2 H.out.baok H.out.ok H.out.tab).mono ?_
 rintro e w5 ⟨hb5, ⟨hE, A5, c5, rfl, ho⟩ | ⟨hE, rfl⟩⟩
 ·have hf := (fits_iff _ _).1 hE
  have hbk := hf.back H.out.baok
  have hpk := hf.peek H.out.baok
  have hln := H.out.items.len
  have hle := hf.enc_le
  have hcc := own_caps ho
  simp only at hbk hpk
  generalize encA lc (v, s, lb) = xs at *
  obtain ⟨xl, hxl⟩ : ∃ xl, xs.length = xl := ⟨_, rfl⟩
  rw [hxl] at ho hle hcc ⊢
  have HX := Lib.hid (own_reads ho)
  have Hbk := Lib.hid hbk
  have Hpk := Lib.hid hpk
  have Hcc := Lib.hid hcc
  have H := Lib.hid (H.out.on hb5)
  clear a0 a1 a2 ho hb5 hbk hpk hf hE hcc hxl
  go_wp2_with fail
  with_reducible refine (bdec_any A1 k1 c1 lc A5 xl c5 xs _ H.out.cols H.out.max1 HX.out Hcc.out.1 Hcc.out.2 H.out.tab).mono ?_
  rw [Hbk.out]
  rintro e w6 ⟨hb6, J, kk, dd, rfl, hio⟩
  have hkk := hio.len
  simp only at hkk ⊢
  obtain rfl : k3 = kk := by omega
  have HJ := Lib.hid (hio.at_.al (.cells #[.int .i64 v, .int .i64 s, .slice J k3 dd] 30))
  have HP6 := Lib.hid (Blk.new w6 30 #[.int .i64 v, .int .i64 s, .slice J k3 dd])
  have H := Lib.hid ((H.out.on hb6).al (.cells #[.int .i64 v, .int .i64 s, .slice J k3 dd] 30))
  have HX := Lib.hid ((HX.out.on hb6).al (.cells #[.int .i64 v, .int .i64 s, .slice J k3 dd] 30))
  clear hio hb6 hkk
  go_wp2_with fail
  with_reducible refine (bpeek_any A5 xl c5 xs _ HX.out Hcc.out.1 Hcc.out.2 H.out.tab).mono ?_
  rw [Hpk.out]
  rintro e w7 ⟨rfl, hb7⟩
  have H := Lib.hid (H.out.on hb7)
  have HJ := Lib.hid (HJ.out.on hb7)
  have HP6 := Lib.hid (HP6.out.on hb7)
  have a0 := H.out.box.cell 0
  have a1 := H.out.box.cell 1
  have a2 := H.out.box.cell 2
  have e0 := HP6.out.cell 0
  have e1 := HP6.out.cell 1
  have e2 := HP6.out.cell 2
  simp only
  rw [hln]
  clear hb7 HX hln
  go_wp2_with fail
  with_reducible refine (bsame_any v s A3 k3 c3 lb v s J k3 dd lb _ H.out.items HJ.out H.out.max2).mono ?_
  rw [sameBa_self]
  rintro e w8 ⟨rfl, hb8⟩
  have H := Lib.hid (H.out.on hb8)
  clear hb8 a0 a1 a2 e0 e1 e2 HJ
  have a0 := H.out.box.cell 0
  have a1 := H.out.box.cell 1
  have a2 := H.out.box.cell 2
  have t1 : (v == v) = true := by simp
  have t2 : (s == s) = true := by simp
  have t3 : ((k3 : Int) == (k3 : Int)) = true := by simp
  go_wp2_with fail
  with_reducible refine (bworks_yes _ H.out.tab).mono ?_
  rintro e w9 ⟨rfl, hb9⟩
  have H := Lib.hid (H.out.on hb9)
  clear hb9
  go_wp2
  go_ret
  exact ⟨rfl, H.out.below⟩
 ·have H := Lib.hid (H.out.on hb5)
  obtain ⟨E, hEE⟩ : ∃ E, batE lc (v, s, lb) = E := ⟨_, rfl⟩
  rw [hEE] at hE ⊢
  have HE := Lib.hid hEE
  have d1 : (E != 0) = true := by simpa using hE
  have d2 : (E == E) = true := by simp
  clear hb5 hE hEE a0 a1 a2
  have a0 := H.out.box.cell 0
  have a1 := H.out.box.cell 1
  have a2 := H.out.box.cell 2
  go_wp2_with fail
  with_reducible refine (bCheck_any A1 k1 c1 lc v s A3 k3 c3 lb _ H.out.cols H.out.max1 H.out.items H.out.max2 H.out.tab.tabs).mono ?_
  rw [HE.out]
  rintro e w6 ⟨rfl, hb6⟩
  have H := Lib.hid (H.out.on hb6)
  clear hb6 a0 a1 a2
  go_wp2_with fail
  with_reducible refine (bworks_yes _ H.out.tab).mono ?_
  rintro e w9 ⟨rfl, hb9⟩
  have H := Lib.hid (H.out.on hb9)
  clear hb9
  go_wp2
  go_ret
  exact ⟨rfl, H.out.below⟩
end Go.Proofs.YtjpjalmilfgckaaGreatDoor
