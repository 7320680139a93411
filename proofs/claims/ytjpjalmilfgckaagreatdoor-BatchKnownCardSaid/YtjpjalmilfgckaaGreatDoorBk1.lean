/- Part 1 of the walks, merged: each text under its own heading. Conditions: none of its own; each lemma states what it asks. -/
import Derived.Below
import Derived.WalkKit
import Derived.WalkSpells
import Derived.WalkLawsBesides
import Derived.Laws.OwnMore
import Derived.Deep.AppendLies
import Derived.Deep.Draws
import Derived.Laws.Rows
import Derived.Maps.AppendAt
import Derived.Lib.Hide
import Derived.Outline
import Derived.Lib.Walk
import Derived.Lib.Small
import Derived.Lib.Slices
import Derived.Lib.Strings
import Derived.Test.YtjpjalmilfgckaaGreatDoorRows
import Derived.Defers
import Derived.Recover
import Derived.Lib.ValidLaws
import Derived.Lib.AppendStr
set_option linter.unusedVariables false
set_option linter.unusedSimpArgs false
namespace Go.Proofs.YtjpjalmilfgckaaGreatDoor
open Go.RowKit
theorem block_of_add (a : Addr) (n : Nat) : (a.add n).block = a.block := by unfold Addr.add; split <;> rfl
theorem add_of_add (a : Addr) (i j : Nat) : (a.add i).add j = a.add (i + j) := by
 unfold Addr.add
 by_cases hi : i = 0 <;> by_cases hj : j = 0 <;> simp [hi, hj, Nat.add_assoc]
def Reads (w : World) (B size : Nat) (A : Option Addr) (n : Nat) (xs : List Value) : Prop :=
 xs.length = n * size ∧ (0 < n → ∃ ad, A = some ad ∧ ad.block < B ∧ ∀ j u, xs[j]? = some u → w.cell? (ad.add j) = some u)
section
variable {w w' : World} {B B' size n : Nat} {A : Option Addr} {xs : List Value}
theorem Reads.none_ : Reads w B size A 0 [] := ⟨by simp, fun h => absurd h (by omega)⟩
theorem Reads.at_ {k : Nat} (h : Reads w B 1 A n xs) (hk : k < n) : ∃ ad u, A = some ad ∧ ad.block < B ∧ xs[k]? = some u ∧ w.cell? (ad.add k) = some u := by
 obtain ⟨ad, e, hb, hc⟩ := h.2 (by omega)
 have hl : k < xs.length := by have := h.1; omega
 exact ⟨ad, xs[k], e, hb, List.getElem?_eq_getElem hl, hc k _ (List.getElem?_eq_getElem hl)⟩
theorem Reads.keep (h : Reads w B size A n xs) (hk : ∀ p : Addr, p.block < B → w'.cell? p = w.cell? p) : Reads w' B size A n xs :=
 ⟨h.1, fun hn => by
  obtain ⟨ad, e, hb, hc⟩ := h.2 hn
  exact ⟨ad, e, hb, fun j u hu => (hk _ (by rw [block_of_add]; exact hb)).trans (hc j u hu)⟩⟩
theorem Reads.more (h : Reads w B size A n xs) (hB : B ≤ B') : Reads w B' size A n xs :=
 ⟨h.1, fun hn => by
  obtain ⟨ad, e, hb, hc⟩ := h.2 hn
  exact ⟨ad, e, by omega, hc⟩⟩
theorem Reads.below (h : Reads w B size A n xs) (hb : Below B w w') : Reads w' B size A n xs := h.keep fun _ hp => hb.cell hp
theorem Reads.on (h : Reads w w.heap.size size A n xs) (hb : Below w.heap.size w w') : Reads w' w'.heap.size size A n xs := (h.below hb).more hb.size
theorem Reads.drew (h : Reads w B size A n xs) : Reads w.drew B size A n xs := h
theorem Reads.alloc (h : Reads w B size A n xs) (hB : B ≤ w.heap.size) (o : Obj) : Reads (w.alloc o) B size A n xs := h.keep fun p hp => World.cell?_alloc_lt w o p (by omega)
theorem Reads.setCell (h : Reads w B size A n xs) {p : Addr} (hB : B ≤ p.block) (u : Value) : Reads (w.setCell p u) B size A n xs :=
 h.keep fun q hq => World.cell?_setCell_other w p q u (fun e => by subst e; omega)
theorem Reads.grown (h : Reads w B size A n xs) {row : Option Nat} (hg : w.grownBy w' row) (hB : B ≤ w.heap.size) (hr : ∀ g, row = some g → B ≤ g) : Reads w' B size A n xs :=
 h.keep fun p hp => World.cell?_of_block (hg.block p.block (by omega) (fun e => by have := hr _ e.symm; omega))
theorem Reads.cut (h : Reads w B size A n xs) {k cap : Nat} (hk : k ≤ n) (hc : n ≤ cap) :
  Reads w B size (if cap = k then A else A.map (·.add (k * size))) (n - k) (xs.drop (k * size)) := by
 refine ⟨by rw [List.length_drop, h.1, Nat.sub_mul], fun hn => ?_⟩
 obtain ⟨ad, rfl, hb, hcell⟩ := h.2 (by omega)
 rw [if_neg (by omega)]
 refine ⟨ad.add (k * size), rfl, by rw [block_of_add]; exact hb, fun j u hu => ?_⟩
 rw [add_of_add]
 exact hcell _ u (by rw [← hu, List.getElem?_drop])
theorem Reads.head (h : Reads w B size A n xs) {k : Nat} (hk : k ≤ n) : Reads w B size A k (xs.take (k * size)) := by
 refine ⟨by rw [List.length_take, h.1]; exact Nat.min_eq_left (Nat.mul_le_mul_right _ hk), fun hn => ?_⟩
 obtain ⟨ad, rfl, hb, hcell⟩ := h.2 (by omega)
 refine ⟨ad, rfl, hb, fun j u hu => ?_⟩
 rw [List.getElem?_take] at hu
 split at hu
 ·exact hcell j u hu
 ·cases hu
theorem Reads.of_own {base : Nat} {e : TypeId} {c : Nat} (h : w.ownsRow base e size (.slice A n c) n xs) : Reads w w.heap.size size A n xs := by
 refine ⟨h.1, fun hn => ?_⟩
 obtain ⟨g, cap, hv, _, hlt⟩ := h.form hn
 have hA : A = some ⟨g, 0, none⟩ := by injection hv
 subst hA
 exact ⟨_, rfl, hlt, h.cells (g := g) rfl⟩
end
theorem own_shape {w : World} {base : Nat} {e : TypeId} {size n : Nat} {v : Value} {xs : List Value} (h : w.ownsRow base e size v n xs) :
  ∃ A c, v = .slice A n c ∧ n ≤ c ∧ c ≤ maxLen := by
 rcases h.2 with ⟨rfl, rfl⟩ | ⟨g, cap, cur, rfl, _, _, h1, h2, _⟩
 ·exact ⟨none, 0, rfl, Nat.le_refl _, by simp [maxLen]⟩
 ·exact ⟨_, cap, rfl, h1, h2⟩
theorem own_mono {w : World} {base base' : Nat} {e : TypeId} {size n : Nat} {v : Value} {xs : List Value} (h : w.ownsRow base e size v n xs) (hb : base' ≤ base) : w.ownsRow base' e size v n xs := by
 refine ⟨h.1, ?_⟩
 rcases h.2 with h2 | ⟨g, cap, cur, hv, hg, r⟩
 ·exact .inl h2
 ·exact .inr ⟨g, cap, cur, hv, Nat.le_trans hb hg, r⟩
theorem reads_new (w : World) (v : Value) (e : TypeId) : Reads (w.alloc (.cells #[v] e)) (w.alloc (.cells #[v] e)).heap.size 1 (some ⟨w.heap.size, 0, none⟩) 1 [v] := by
 exact ⟨rfl, fun _ => ⟨_, rfl, by simp, cell_one_new _ _ _⟩⟩
theorem reads_lit (w : World) (cs : Array Value) (e : TypeId) (xs : List Value) (b n : Nat) (hb : b = w.heap.size) (h : cs.toList = xs) (hn : n = cs.size) :
  Reads (w.alloc (.cells cs e)) (w.alloc (.cells cs e)).heap.size 1 (some ⟨b, 0, none⟩) n xs := by
 subst h hb hn
 refine ⟨by simp, fun _ => ⟨_, rfl, by simp, fun j u hu => ?_⟩⟩
 have hadd : (⟨w.heap.size, 0, none⟩ : Addr).add j = ⟨w.heap.size, j, none⟩ := by unfold Addr.add; split <;> simp_all
 rw [hadd, cell_of_row _ w.heap.size j cs e (0, 0) (heap_alloc_new w _)]
 simpa using hu
theorem Reads.al {w : World} {size n : Nat} {A : Option Addr} {xs : List Value} (h : Reads w w.heap.size size A n xs) (o : Obj) : Reads (w.alloc o) (w.alloc o).heap.size size A n xs :=
 (h.alloc (Nat.le_refl _) o).more (by simp)
theorem bal {a w : World} (h : Below a.heap.size a w) (o : Obj) : Below a.heap.size a (w.alloc o) := h.alloc h.size o
theorem bon {a w w' : World} (h : Below a.heap.size a w) (k : Below w.heap.size w w') : Below a.heap.size a w' := h.trans (k.mono h.size)
theorem own_reads {w : World} {base : Nat} {e : TypeId} {size : Nat} {A : Option Addr} {n c : Nat} {xs : List Value} (h : w.ownsRow base e size (.slice A n c) n xs) : Reads w w.heap.size size A n xs := Reads.of_own h
theorem own_below {w w' : World} {base : Nat} {e : TypeId} {size n : Nat} {v : Value} {xs : List Value} (h : w.ownsRow base e size v n xs) (hb : Below w.heap.size w w') : w'.ownsRow base e size v n xs := by
 refine ⟨h.1, ?_⟩
 rcases h.2 with h2 | ⟨g, cap, cur, hv, hg, hh, r⟩
 ·exact .inl h2
 ·exact .inr ⟨g, cap, cur, hv, hg, (hb.block g (by
   rcases Nat.lt_or_ge g w.heap.size with hlt | hge
   ·exact hlt
   ·rw [Array.getElem?_eq_none hge] at hh; cases hh)).trans hh, r⟩
def App (w : World) (base : Nat) (e : TypeId) (size : Nat) (A : Option Addr) (n c : Nat) (xs : List Value) : Prop :=
 w.ownsRow base e size (.slice A n c) n xs ∨ (c = n ∧ Reads w w.heap.size size A n xs)
theorem App.reads {w : World} {base : Nat} {e : TypeId} {size : Nat} {A : Option Addr} {n c : Nat} {xs : List Value} (h : App w base e size A n c xs) : Reads w w.heap.size size A n xs := by
 rcases h with h | h
 ·exact Reads.of_own h
 ·exact h.2
theorem App.alloc {w : World} {base : Nat} {e : TypeId} {size : Nat} {A : Option Addr} {n c : Nat} {xs : List Value} (h : App w base e size A n c xs) (o : Obj) : App (w.alloc o) base e size A n c xs := by
 rcases h with h | h
 ·exact .inl (h.alloc o)
 ·exact .inr ⟨h.1, (h.2.alloc (Nat.le_refl _) o).more (by simp)⟩
section
variable {P : Program} (w : World)
theorem run_append_of_nil (base : Nat) (t ty e : TypeId) (i : TypeInfo) (size : Nat) (ht : P.underlying t = some (.slice e)) (hi : P.info? e = some i)
  (v : Value) (n : Nat) (xs : List Value) (hown : w.ownsRow base e size v n xs) (c : Nat) : (Builtin.append_ #[t, t] ty #[v, .slice none 0 c]).run P w = .ok v w := by
 rcases hown.2 with ⟨rfl, rfl⟩ | ⟨g, cap, cur, rfl, _, _, hnc, _⟩
 ·simp [Builtin.append_, run_underlying ht, sizeOf, typeInfo, hi, Builtin.lenOf, Builtin.firstCells]
 ·simp [Builtin.append_, run_underlying ht, sizeOf, typeInfo, hi, Builtin.lenOf, Builtin.firstCells, hnc, storeCells]
theorem run_append_any (base : Nat) (t ty e : TypeId) (i : TypeInfo) (z : Value) (size bytes : Nat) (ht : P.underlying t = some (.slice e)) (hi : P.info? e = some i) (hz : i.zero = some z)
  (hsize : i.size = size) (hby : i.bytes = bytes) (hzs : z.cells.size = size) (hsz : 0 < size)
  (v : Value) (n : Nat) (xs : List Value) (hown : w.ownsRow base e size v n xs)
  (B : Nat) (A : Option Addr) (m c : Nat) (news : List Value) (hr : Reads w B size A m news) (h1 : ∀ u ∈ news, u.oneCell' = true)
  (h63 : n + m ≤ maxLen) (hbytes : (n + m) * bytes ≤ 140737488355328) (hbase : base ≤ w.heap.size) :
  ∃ v' w', (Builtin.append_ #[t, t] ty #[v, .slice A m c]).run P w = .ok v' w' ∧ w'.ownsRow base e size v' (n + m) (xs ++ news) ∧ w.grownBy w' v.ownBlock ∧
   (v'.ownBlock = v.ownBlock ∨ v'.ownBlock = some w.heap.size) := by
 rcases A with _ | ad
 ·have hm : m = 0 := by
   rcases Nat.eq_zero_or_pos m with h0 | h0
   ·exact h0
   ·obtain ⟨ad, h, _⟩ := hr.2 h0
    cases h
  subst hm
  have hn : news = [] := List.eq_nil_of_length_eq_zero (by simpa using hr.1)
  subst hn
  exact ⟨v, w, run_append_of_nil w base t ty e i size ht hi v n xs hown c, by simpa using hown, World.grownBy.refl w _, .inl rfl⟩
 ·have hcells : ∀ j u, news[j]? = some u → w.cell? (ad.add j) = some u := by
   intro j u hu
   rcases Nat.eq_zero_or_pos m with h0 | h0
   ·subst h0
    have hn : news = [] := List.eq_nil_of_length_eq_zero (by simpa using hr.1)
    subst hn
    simp at hu
   ·obtain ⟨ad', h, _, hc⟩ := hr.2 h0
    injection h with h
    subst h
    exact hc j u hu
  obtain ⟨v', w', hrun, h2, h3, _, h5⟩ := run_append_own_at (P := P) w base t ty e i z size bytes ht hi hz hsize hby hzs hsz v n xs hown ad m c news hr.1 hcells h1 h63 hbytes hbase
  exact ⟨v', w', hrun, h2, h3, h5⟩
theorem run_append_app (base : Nat) (t ty e : TypeId) (i : TypeInfo) (z : Value) (size bytes : Nat) (ht : P.underlying t = some (.slice e)) (hi : P.info? e = some i) (hz : i.zero = some z)
  (hsize : i.size = size) (hby : i.bytes = bytes) (hzs : z.cells.size = size) (hsz : 0 < size)
  (A0 : Option Addr) (n c0 : Nat) (xs : List Value) (happ : App w base e size A0 n c0 xs)
  (A : Option Addr) (m c : Nat) (news : List Value) (hr : Reads w w.heap.size size A m news) (h1 : ∀ u ∈ news, u.oneCell' = true)
  (hm : 0 < m) (h63 : n + m ≤ maxLen) (hbytes : (n + m) * bytes ≤ 70368744177664) (hbase : base ≤ w.heap.size) :
  ∃ A' c' w', (Builtin.append_ #[t, t] ty #[.slice A0 n c0, .slice A m c]).run P w = .ok (.slice A' (n + m) c') w' ∧ w'.ownsRow base e size (.slice A' (n + m) c') (n + m) (xs ++ news) ∧
   Below base w w' ∧ w.grownBy w' (Value.slice A0 n c0).ownBlock ∧ n + m ≤ c' ∧ c' ≤ maxLen := by
 rcases happ with hown | ⟨rfl, hrd⟩
 ·obtain ⟨v', w', hrun, h2, h3, h5⟩ := run_append_any (P := P) w base t ty e i z size bytes ht hi hz hsize hby hzs hsz _ n xs hown _ A m c news hr h1 h63 (by omega) hbase
  obtain ⟨A', c', rfl, hl1, hl2⟩ := own_shape h2
  exact ⟨A', c', w', hrun, h2, (Below.refl _ _).grown h3 hbase (fun k hk => (hown.lt k hk).1), h3, hl1, hl2⟩
 ·obtain ⟨ad, rfl, _, hc⟩ := hr.2 hm
  subst hsize hby
  rcases A0 with _ | a0
  ·have hn : c0 = 0 := by
    rcases Nat.eq_zero_or_pos c0 with h0 | h0
    ·exact h0
    ·obtain ⟨ad, h, _⟩ := hrd.2 h0
     cases h
   subst hn
   have hn : xs = [] := List.eq_nil_of_length_eq_zero (by simpa using hrd.1)
   subst hn
   have hown : w.ownsRow base e i.size (.slice none 0 0) 0 [] := World.ownsRow_nil _ _ _ _
   obtain ⟨v', w', hrun, h2, h3, h5⟩ := run_append_any (P := P) w base t ty e i z i.size i.bytes ht hi hz rfl rfl hzs hsz _ 0 [] hown _ (some ad) m c news hr h1 h63 (by omega) hbase
   obtain ⟨A', c', rfl, hl1, hl2⟩ := own_shape h2
   exact ⟨A', c', w', hrun, h2, (Below.refl _ _).grown h3 hbase (fun k hk => (hown.lt k hk).1), h3, hl1, hl2⟩
  ·have holds : ∀ j u, xs[j]? = some u → w.cell? (a0.add j) = some u := by
    intro j u hu
    rcases Nat.eq_zero_or_pos c0 with h0 | h0
    ·subst h0
     have hn : xs = [] := List.eq_nil_of_length_eq_zero (by simpa using hrd.1)
     subst hn
     simp at hu
    ·obtain ⟨ad', h, _, hc⟩ := hrd.2 h0
     injection h with h
     subst h
     exact hc j u hu
   have h63' : c0 + m ≤ 9223372036854775807 := by simp only [maxLen] at h63; omega
   have hrun := run_append_grow (P := P) w t ty e i z ht hi hz a0 c0 c0 xs hrd.1 holds ad m c news hr.1 hc (by omega) (by omega) (growslice_fits (by omega) (by omega))
   have hge := grownCap_ge w (c0 + m) c0 e
   have hcm : grownCap w (c0 + m) c0 e ≤ maxLen := grownCap_le_maxLen w (c0 + m) c0 e h63
   have hlen : (xs ++ news).length = (c0 + m) * i.size := by rw [List.length_append, hrd.1, hr.1, Nat.add_mul]
   refine ⟨_, _, _, hrun, ⟨hlen, .inr ⟨w.heap.size, _, _, rfl, hbase, heap_alloc_new w.drew _, hge, hcm, ?_, ?_⟩⟩, (Below.refl _ _).drew.alloc hbase _, ⟨rfl, rfl, rfl, by simp, fun k hk _ => Below.heap_alloc w.drew _ k hk⟩, hge, hcm⟩
   ·simp only [Array.size_append, List.size_toArray, size_zeroCells, hzs, hrd.1, hr.1, ← Nat.add_mul]
    congr 1
    omega
   ·simp only [Array.toList_append, List.append_assoc]
    rw [← List.append_assoc, ← hlen]
    exact List.take_left
theorem wpList_append_app {ops : Array Oper} {rest : List Oper} {o : Oper} {a : Act} {Q : Exit → Act → World → Prop} (hgd : o.guard = none) (s x : Operand) (t : TypeId)
  (ho : o.op = .call { callee := .builtin .append, args := #[s, x], argTypes := #[t, t] })
  (base : Nat) (e : TypeId) (i : TypeInfo) (z : Value) (size bytes : Nat) (ht : P.underlying t = some (.slice e)) (hi : P.info? e = some i) (hz : i.zero = some z)
  (hsize : i.size = size) (hby : i.bytes = bytes) (hzs : z.cells.size = size) (hsz : 0 < size)
  (A0 : Option Addr) (n c0 : Nat) (xs : List Value) (hs : a.eval s = .slice A0 n c0) (happ : App w base e size A0 n c0 xs)
  (A : Option Addr) (m c : Nat) (news : List Value) (hx : a.eval x = .slice A m c) (hr : Reads w w.heap.size size A m news) (h1 : ∀ u ∈ news, u.oneCell' = true)
  (hm : 0 < m) (h63 : n + m ≤ maxLen) (hbytes : (n + m) * bytes ≤ 70368744177664) (hbase : base ≤ w.heap.size)
  (h : ∀ A' c' w', w'.ownsRow base e size (.slice A' (n + m) c') (n + m) (xs ++ news) → Below base w w' → w.grownBy w' (Value.slice A0 n c0).ownBlock → n + m ≤ c' → c' ≤ maxLen → wpList P ops Q rest (a.put o.dst (.slice A' (n + m) c')) w') : wpList P ops Q (o :: rest) a w :=
 wpList_plain hgd fun K hK => by
  obtain ⟨A', c', w', hrun, h2, h3, h4, h5, h6⟩ := run_append_app (P := P) w base t o.type e i z size bytes ht hi hz hsize hby hzs hsz A0 n c0 xs happ A m c news hr h1 hm h63 hbytes hbase
  unfold Oper.wp execOp
  simp only [ho, resolve, invoke, builtin, Sem.run_bind, Sem.run_pure, Result.andThen_ok, List.map_toArray, List.map_cons, List.map_nil, hs, hx, hrun]
  exact hK _ _ (h A' c' w' h2 h3 h4 h5 h6)
theorem wpList_append_any {ops : Array Oper} {rest : List Oper} {o : Oper} {a : Act} {Q : Exit → Act → World → Prop} (hgd : o.guard = none) (s x : Operand) (t : TypeId)
  (ho : o.op = .call { callee := .builtin .append, args := #[s, x], argTypes := #[t, t] })
  (base : Nat) (e : TypeId) (i : TypeInfo) (z : Value) (size bytes : Nat) (ht : P.underlying t = some (.slice e)) (hi : P.info? e = some i) (hz : i.zero = some z)
  (hsize : i.size = size) (hby : i.bytes = bytes) (hzs : z.cells.size = size) (hsz : 0 < size)
  (A0 : Option Addr) (n c0 : Nat) (xs : List Value) (hs : a.eval s = .slice A0 n c0) (hown : w.ownsRow base e size (.slice A0 n c0) n xs)
  (A : Option Addr) (m c : Nat) (news : List Value) (hx : a.eval x = .slice A m c) (hr : Reads w w.heap.size size A m news) (h1 : ∀ u ∈ news, u.oneCell' = true)
  (h63 : n + m ≤ maxLen) (hbytes : (n + m) * bytes ≤ 70368744177664) (hbase : base ≤ w.heap.size)
  (h : ∀ A' c' w', w'.ownsRow base e size (.slice A' (n + m) c') (n + m) (xs ++ news) → Below base w w' → w.grownBy w' (Value.slice A0 n c0).ownBlock → n + m ≤ c' → c' ≤ maxLen → wpList P ops Q rest (a.put o.dst (.slice A' (n + m) c')) w') : wpList P ops Q (o :: rest) a w :=
 wpList_plain hgd fun K hK => by
  obtain ⟨v', w', hrun, h2, h3, h5⟩ := run_append_any (P := P) w base t o.type e i z size bytes ht hi hz hsize hby hzs hsz _ n xs hown _ A m c news hr h1 h63 (by omega) hbase
  obtain ⟨A', c', rfl, hl1, hl2⟩ := own_shape h2
  unfold Oper.wp execOp
  simp only [ho, resolve, invoke, builtin, Sem.run_bind, Sem.run_pure, Result.andThen_ok, List.map_toArray, List.map_cons, List.map_nil, hs, hx, hrun]
  exact hK _ _ (h A' c' w' h2 ((Below.refl _ _).grown h3 hbase (fun k hk => (hown.lt k hk).1)) h3 hl1 hl2)
theorem wp_append_any {o : Oper} {a : Act} {K : Act → World → Prop} {Q : Exit → Act → World → Prop} (s x : Operand) (t : TypeId)
 (ho : o.op = .call { callee := .builtin .append, args := #[s, x], argTypes := #[t, t] })
 (base : Nat) (e : TypeId) (i : TypeInfo) (z : Value) (size bytes : Nat) (ht : P.underlying t = some (.slice e)) (hi : P.info? e = some i) (hz : i.zero = some z)
 (hsize : i.size = size) (hby : i.bytes = bytes) (hzs : z.cells.size = size) (hsz : 0 < size)
 (A0 : Option Addr) (n c0 : Nat) (xs : List Value) (hs : a.eval s = .slice A0 n c0) (hown : w.ownsRow base e size (.slice A0 n c0) n xs)
 (A : Option Addr) (m c : Nat) (news : List Value) (hx : a.eval x = .slice A m c) (hr : Reads w w.heap.size size A m news) (h1 : ∀ u ∈ news, u.oneCell' = true)
 (h63 : n + m ≤ maxLen) (hbytes : (n + m) * bytes ≤ 70368744177664) (hbase : base ≤ w.heap.size)
 (h : ∀ A' c' w', w'.ownsRow base e size (.slice A' (n + m) c') (n + m) (xs ++ news) → Below base w w' → w.grownBy w' (Value.slice A0 n c0).ownBlock → n + m ≤ c' → c' ≤ maxLen → K (a.put o.dst (.slice A' (n + m) c')) w') : o.wp P a w K Q := by
 obtain ⟨v', w', hrun, h2, h3, h5⟩ := run_append_any (P := P) w base t o.type e i z size bytes ht hi hz hsize hby hzs hsz _ n xs hown _ A m c news hr h1 h63 (by omega) hbase
 obtain ⟨A', c', rfl, hl1, hl2⟩ := own_shape h2
 unfold Oper.wp execOp
 simp only [ho, resolve, invoke, builtin, Sem.run_bind, Sem.run_pure, Result.andThen_ok, List.map_toArray, List.map_cons, List.map_nil, hs, hx, hrun]
 exact (h A' c' w' h2 ((Below.refl _ _).grown h3 hbase (fun k hk => (hown.lt k hk).1)) h3 hl1 hl2)
end
def u8s (l : List UInt8) : List Value := l.map fun b => .int .u8 (b.toNat : Int)
@[simp] theorem u8s_length (l : List UInt8) : (u8s l).length = l.length := by simp [u8s]
theorem u8s_append (l m : List UInt8) : u8s (l ++ m) = u8s l ++ u8s m := by simp [u8s]
theorem u8s_take (l : List UInt8) (k : Nat) : (u8s l).take k = u8s (l.take k) := by simp [u8s, List.map_take]
theorem u8s_drop (l : List UInt8) (k : Nat) : (u8s l).drop k = u8s (l.drop k) := by simp [u8s, List.map_drop]
theorem u8s_one (l : List UInt8) : ∀ u ∈ u8s l, u.oneCell' = true := by
 intro u hu
 simp only [u8s, List.mem_map] at hu
 obtain ⟨b, _, rfl⟩ := hu
 rfl
theorem one_int (k : IntKind) (n : Int) : ∀ u ∈ [Value.int k n], u.oneCell' = true := by
 intro u hu
 obtain rfl : u = .int k n := by simpa using hu
 rfl
theorem u8_cell (m : Nat) (h : m < 256) : [Value.int .u8 (m : Int)] = u8s [UInt8.ofNat m] := by
 simp [u8s, Nat.mod_eq_of_lt h]
theorem u8_or128 (m : Nat) : [Value.int .u8 (bits .or .u8 ((m : Int) % 256) 128)] = u8s [UInt8.ofNat (m % 128 + 128)] := by
 have h : ((m : Int) % 256) = ((m % 256 : Nat) : Int) := by omega
 have h2 : ∀ k, k < 256 → k ||| 128 = k % 128 + 128 := by decide +kernel
 rw [h, show (128 : Int) = ((128 : Nat) : Int) from rfl, u8_or_nat _ _ (by omega) (by omega), h2 _ (by omega), ← u8_cell _ (by omega)]
 have : m % 256 % 128 = m % 128 := by omega
 rw [this]
theorem u8s_get (xs : List UInt8) (k : Nat) (v : Value) (h : (u8s xs)[k]? = some v) : ∃ c : UInt8, xs[k]? = some c ∧ v = .int .u8 (c.toNat : Int) := by
 simp only [u8s, List.getElem?_map, Option.map_eq_some_iff] at h
 obtain ⟨c, h1, h2⟩ := h
 exact ⟨c, h1, h2.symm⟩
theorem reads_len {w : World} {B n : Nat} {A : Option Addr} {l : List UInt8} (h : Reads w B 1 A n (u8s l)) : l.length = n := by
 have := h.1
 simpa using this
theorem foldl_push (l : List UInt8) : ∀ s : ByteArray, (l.map fun b => (b.toNat : Int)).foldl (fun r n => r.push (UInt8.ofNat n.toNat)) s = ⟨s.data ++ l.toArray⟩ := by
 induction l with
 | nil => intro s; simp
 | cons b l ih =>
  intro s
  simp only [List.map_cons, List.foldl_cons]
  rw [ih]
  have : UInt8.ofNat ((b.toNat : Int)).toNat = b := by simp
  rw [this]
  congr 1
  show s.data.push b ++ l.toArray = _
  simp
theorem run_bytes_string {P : Program} (w : World) (src dst e : TypeId) (hs : P.underlying src = some (.slice e)) (he : P.underlying e = some (.int .u8)) (hd : P.underlying dst = some .string)
  (B : Nat) (A : Option Addr) (n c : Nat) (l : List UInt8) (hr : Reads w B 1 A n (u8s l)) :
  (convert src dst (.slice A n c)).run P w = .ok (.string ⟨l.toArray⟩) w := by
 rw [run_convert_bytes_string w src dst e A n c hs he hd]
 have hlen : l.length = n := by have := hr.1; simpa using this
 rcases A with _ | ad
 ·have hn : n = 0 := by
   rcases Nat.eq_zero_or_pos n with h0 | h0
   ·exact h0
   ·obtain ⟨ad, h, _⟩ := hr.2 h0
    cases h
  subst hn
  have : l = [] := List.eq_nil_of_length_eq_zero hlen
  subst this
  simp [Conv.bytesToString]
  rfl
 ·have hcells : ∀ j u, (u8s l)[j]? = some u → w.cell? (ad.add j) = some u := by
   intro j u hu
   rcases Nat.eq_zero_or_pos n with h0 | h0
   ·subst h0
    have : l = [] := List.eq_nil_of_length_eq_zero hlen
    subst this
    simp [u8s] at hu
   ·obtain ⟨ad', h, _, hc⟩ := hr.2 h0
    injection h with h
    subst h
    exact hc j u hu
  have hload := run_firstCells_some (P := P) w 1 n ad n c (u8s l) (by simpa using hlen) hcells
  rw [run_bytesToString w ad n c (l.map fun b => (b.toNat : Int)) ?_]
  ·rw [foldl_push]; simp [ByteArray.empty, ByteArray.emptyWithCapacity]; rfl
  ·simp only [Builtin.firstCells, Nat.mul_one] at hload
   rw [hload]
   simp [u8s, Function.comp_def]
theorem bytes_of_row {w : World} {a : Option Addr} {len cap : Nat} {zs : List Int} (h : (a = none ∧ len = 0 ∧ cap = 0 ∧ zs = []) ∨
  ∃ x, a = some x ∧ len ≤ cap ∧ cap ≤ maxLen ∧ zs.length = cap ∧ (∀ i, i < zs.length → w.cell? (x.add i) = some (.int .u8 (zs.getD i 0))) ∧ ∀ n ∈ zs, (Lit.int .u8 n).wf = true) :
  ∃ xs : List UInt8, Reads w w.heap.size 1 a len (u8s xs) ∧ len ≤ cap ∧ cap ≤ maxLen := by
 rcases h with ⟨rfl, rfl, rfl, rfl⟩ | ⟨x, rfl, hl, hc, hz, hcell, hwf⟩
 ·exact ⟨[], Reads.none_, Nat.le_refl _, by simp [maxLen]⟩
 ·have hx : ∀ j u, (u8s ((zs.take len).map fun n => UInt8.ofNat n.toNat))[j]? = some u → w.cell? (x.add j) = some u := by
   intro j u hu
   simp only [u8s, List.getElem?_map, Option.map_eq_some_iff, List.getElem?_take] at hu
   obtain ⟨b, ⟨n, hn, rfl⟩, rfl⟩ := hu
   split at hn
   ·obtain ⟨hj, rfl⟩ := List.getElem?_eq_some_iff.1 hn
    have hw := hwf _ (List.getElem_mem hj)
    have hb : 0 ≤ zs[j] ∧ zs[j] ≤ 255 := by simpa [Lit.wf, IntKind.min, IntKind.max, IntKind.signed, IntKind.bits] using hw
    rw [hcell j hj, List.getD_eq_getElem?_getD, List.getElem?_eq_getElem hj]
    simp only [Option.getD_some, Option.some.injEq, Value.int.injEq, true_and, UInt8.toNat_ofNat']
    omega
   ·cases hn
  refine ⟨_, ⟨?_, fun hn => ⟨x, rfl, ?_, hx⟩⟩, hl, hc⟩
  ·simp only [u8s_length, List.length_map, List.length_take]; omega
  ·have h0 := hcell 0 (by omega)
   have := World.block_lt_of_cell? _ _ h0
   rwa [block_of_add] at this
theorem bounds_i64 {a : Int} (h : (Lit.int .i64 a).wf = true) : -9223372036854775808 ≤ a ∧ a ≤ 9223372036854775807 := by
 simpa [Lit.wf, IntKind.min, IntKind.max, IntKind.signed, IntKind.bits] using h
def Blk (w : World) (g : Nat) (t : TypeId) (cs : Array Value) : Prop := w.heap[g]? = some (.cells cs t (0, 0))
section
variable {w w' : World} {g : Nat} {t : TypeId} {cs : Array Value}
theorem Blk.lt (h : Blk w g t cs) : g < w.heap.size := by
 rcases Nat.lt_or_ge g w.heap.size with hlt | hge
 ·exact hlt
 ·unfold Blk at h; rw [Array.getElem?_eq_none hge] at h; cases h
theorem Blk.cell (h : Blk w g t cs) (i : Nat) : w.cell? ⟨g, i, none⟩ = cs[i]? := cell_of_row w g i cs t (0, 0) h
theorem Blk.frozen (h : Blk w g t cs) (i : Nat) : w.frozen? ⟨g, i, none⟩ = false := by
 unfold Blk at h
 simp [World.frozen?, h]
theorem Blk.new (w : World) (t : TypeId) (cs : Array Value) : Blk (w.alloc (.cells cs t)) w.heap.size t cs := heap_alloc_new w _
theorem Blk.drew (h : Blk w g t cs) : Blk w.drew g t cs := h
theorem Blk.alloc (h : Blk w g t cs) (o : Obj) : Blk (w.alloc o) g t cs := (Below.heap_alloc w o g h.lt).trans h
theorem Blk.set_ (h : Blk w g t cs) (i : Nat) (u : Value) : Blk (w.setCell ⟨g, i, none⟩ u) g t (cs.setIfInBounds i u) := by
 unfold Blk at h ⊢
 simp [World.setCell, Array.getElem?_modify, h]
theorem Blk.far (h : Blk w g t cs) {p : Addr} (hp : g ≠ p.block) (u : Value) : Blk (w.setCell p u) g t cs := (Below.heap_setCell w p u g hp).trans h
theorem Blk.below {B : Nat} (h : Blk w g t cs) (hb : Below B w w') (hg : g < B) : Blk w' g t cs := (hb.block g hg).trans h
theorem Blk.on (h : Blk w g t cs) (hb : Below w.heap.size w w') : Blk w' g t cs := h.below hb h.lt
theorem Blk.own (h : Blk w g t cs) {base n : Nat} {xs : List Value} (hg : base ≤ g) (hn : cs.toList = xs) (hl : xs.length = n) (hm : n ≤ maxLen) : w.ownsRow base t 1 (.slice (some ⟨g, 0, none⟩) n n) n xs := by
 subst hn
 refine ⟨by simpa using hl, .inr ⟨g, n, cs, rfl, hg, h, Nat.le_refl _, hm, by simpa using hl, ?_⟩⟩
 rw [Nat.mul_one, List.take_of_length_le (by omega)]
end
theorem bset {a w : World} (h : Below a.heap.size a w) {p : Addr} (hp : a.heap.size ≤ p.block) (u : Value) : Below a.heap.size a (w.setCell p u) := h.setCell hp u
theorem own_set {w : World} {base : Nat} {e : TypeId} {n c g : Nat} {xs : List Value} (h : w.ownsRow base e 1 (.slice (some ⟨g, 0, none⟩) n c) n xs) (j : Nat) (hj : j < n) (u : Value) :
  (w.setCell ⟨g, j, none⟩ u).ownsRow base e 1 (.slice (some ⟨g, 0, none⟩) n c) n (xs.set j u) := by
 rcases h.2 with ⟨h0, _⟩ | ⟨g', cap, cur, hv, hb, hh, h1, h2, h3, h4⟩
 ·cases h0
 ·injection hv with hA _ hc
  injection hA with hA
  injection hA with hA
  subst hA hc
  refine ⟨by simpa using h.1, .inr ⟨g, c, cur.setIfInBounds j u, rfl, hb, Blk.set_ (w := w) hh j u, h1, h2, by simpa using h3, ?_⟩⟩
  rw [← h4]
  simp [Array.toList_setIfInBounds, List.take_set]
theorem own_at {w : World} {base : Nat} {e : TypeId} {n c : Nat} {A : Option Addr} {xs : List Value} (h : w.ownsRow base e 1 (.slice A n c) n xs) (hn : 0 < n) :
  ∃ g, A = some ⟨g, 0, none⟩ ∧ base ≤ g ∧ g < w.heap.size ∧ (∀ j u, xs[j]? = some u → w.cell? ⟨g, j, none⟩ = some u) ∧ (∀ j, w.frozen? ⟨g, j, none⟩ = false) := by
 rcases h.2 with ⟨h0, h1⟩ | ⟨g, cap, cur, hv, hb, hh, h1, h2, h3, h4⟩
 ·omega
 ·injection hv with hA _ hc
  subst hA hc
  refine ⟨g, rfl, hb, Blk.lt hh, fun j u hu => ?_, fun j => Blk.frozen hh j⟩
  have := World.ownsRow.cells h (g := g) rfl j u hu
  rwa [show (⟨g, 0, none⟩ : Addr).add j = ⟨g, j, none⟩ by unfold Addr.add; split <;> simp_all] at this
def bls (l : List Bool) : List Value := l.map Value.bool
@[simp] theorem bls_length (l : List Bool) : (bls l).length = l.length := by simp [bls]
theorem bls_append (l m : List Bool) : bls (l ++ m) = bls l ++ bls m := by simp [bls]
theorem bls_take (l : List Bool) (k : Nat) : (bls l).take k = bls (l.take k) := by simp [bls, List.map_take]
theorem bls_drop (l : List Bool) (k : Nat) : (bls l).drop k = bls (l.drop k) := by simp [bls, List.map_drop]
theorem bls_get (xs : List Bool) (k : Nat) (v : Value) (h : (bls xs)[k]? = some v) : ∃ c : Bool, xs[k]? = some c ∧ v = .bool c := by
 simp only [bls, List.getElem?_map, Option.map_eq_some_iff] at h
 obtain ⟨c, h1, h2⟩ := h
 exact ⟨c, h1, h2.symm⟩
theorem blen {w : World} {B n : Nat} {A : Option Addr} {l : List Bool} (h : Reads w B 1 A n (bls l)) : l.length = n := by
 have := h.1
 simpa using this
theorem one_bool (b : Bool) : ∀ u ∈ [Value.bool b], u.oneCell' = true := by
 intro u hu
 obtain rfl : u = .bool b := by simpa using hu
 rfl
theorem u8s_set (l : List UInt8) (i : Nat) (c : UInt8) : (u8s l).set i (.int .u8 (c.toNat : Int)) = u8s (l.set i c) := by
 simp [u8s, List.map_set]
end Go.Proofs.YtjpjalmilfgckaaGreatDoor
namespace Go.Proofs.YtjpjalmilfgckaaGreatDoor
open Go.RowKit
theorem u8_info : (Tryz.prog.info? 5).map (fun i => (i.zero, i.size, i.bytes)) = some (some (.int .u8 0), 1, 1) := by kernel_rfl
set_option maxRecDepth 100000 in
set_option maxHeartbeats 400000 in
theorem eqBytes_any (A B : Option Addr) (n c m d : Nat) (l1 l2 : List UInt8) (w : World) (h1 : Reads w w.heap.size 1 A n (u8s l1)) (h2 : Reads w w.heap.size 1 B m (u8s l2)) :
  Calls Tryz.prog 22 #[.slice A n c, .slice B m d] w fun e w' => e = .returned (.bool (l1 == l2)) ∧ w = w' := by
 have e1 := run_bytes_string (P := Tryz.prog) w 35 9 5 Tryz.underlying35 Tryz.underlying5 Tryz.underlying9 _ A n c l1 h1
 have e2 := run_bytes_string (P := Tryz.prog) w 35 9 5 Tryz.underlying35 Tryz.underlying5 Tryz.underlying9 _ B m d l2 h2
 go_enter Tryz.func22, Tryz.ntmps22
 go_wp2
 go_ret
 exact ⟨rfl, rfl⟩
theorem eq_yes (A B : Option Addr) (n c m d : Nat) (l1 l2 : List UInt8) (w : World) (h1 : Reads w w.heap.size 1 A n (u8s l1)) (h2 : Reads w w.heap.size 1 B m (u8s l2)) (h : l1 = l2) :
  Calls Tryz.prog 22 #[.slice A n c, .slice B m d] w fun e w' => e = .returned (.bool true) ∧ w = w' := by
 subst h
 simpa using eqBytes_any A B n c m d l1 l1 w h1 h2
set_option maxRecDepth 100000 in
set_option maxHeartbeats 400000 in
theorem copyBytes_any (A : Option Addr) (n c : Nat) (l : List UInt8) (w : World) (hr : Reads w w.heap.size 1 A n (u8s l)) (hn : n ≤ 35184372088832) :
  Calls Tryz.prog 15 #[.slice A n c] w fun e w' => ∃ A' c', e = .returned (.slice A' n c') ∧ n ≤ c' ∧ c' ≤ maxLen ∧
   w'.ownsRow w.heap.size 5 1 (.slice A' n c') n (u8s l) ∧ Below w.heap.size w w' := by
 obtain ⟨i0, hi0, hz0, hz1, hz2⟩ := info_parts u8_info
 go_enter Tryz.func15, Tryz.ntmps15
 go_wp2_with (at_builtin
              refine wpList_append_any _ rfl (.tmp 4) (.tmp 5) 35 rfl w.heap.size 5 i0 (.int .u8 0) 1 1 Tryz.underlying35 hi0 hz0 hz1 hz2 rfl (by decide) none 0 0 [] rfl (World.ownsRow_nil _ _ _ _) A n c (u8s l) rfl hr (u8s_one l) (by simp only [maxLen]; omega) (by omega) (Nat.le_refl _) ?_
              intro A2 c2 w2 hown2 hb2 hg2 hc2 hm2
              simp only [Nat.zero_add, List.nil_append] at hown2 hc2)
 go_ret
 exact ⟨A2, c2, by simp, hc2, hm2, hown2, hb2⟩
end Go.Proofs.YtjpjalmilfgckaaGreatDoor
namespace Go.Proofs.YtjpjalmilfgckaaGreatDoor
open Go.RowKit
abbrev thr (E : Int) : Ending := .panicked [{ v := .iface 137 (.int .i64 E), recovered := false }]
def endN (E : Int) : Ending := if E = 0 then .returned (.tuple #[]) else thr E
theorem endN_zero : endN 0 = .returned (.tuple #[]) := rfl
theorem endN_not {E : Int} (h : E ≠ 0) : endN E = thr E := if_neg h
set_option maxRecDepth 100000 in
theorem need_yes (E : Int) (w : World) : Calls Tryz.prog 95 #[.bool true, .int .i64 E] w fun e w' => e = .returned (.tuple #[]) ∧ w = w' := by
 go_enter Tryz.func95, Tryz.ntmps95
 go_wp2
 go_end0
 exact ⟨rfl, rfl⟩
set_option maxRecDepth 100000 in
theorem need_no (E : Int) (w : World) : Calls Tryz.prog 95 #[.bool false, .int .i64 E] w fun e w' => e = thr E ∧ w = w' := by
 go_enter Tryz.func95, Tryz.ntmps95
 go_wp2
 exact ⟨rfl, rfl, rfl⟩
set_option maxRecDepth 100000 in
theorem must_yes (w : World) : Calls Tryz.prog 43 #[.int .i64 0] w fun e w' => e = .returned (.tuple #[]) ∧ w = w' := by
 go_enter Tryz.func43, Tryz.ntmps43
 go_wp2
 go_end0
 exact ⟨rfl, rfl⟩
set_option maxRecDepth 100000 in
theorem must_no (E : Int) (hE : E ≠ 0) (w : World) : Calls Tryz.prog 43 #[.int .i64 E] w fun e w' => e = thr E ∧ w = w' := by
 have d : (E != 0) = true := by simpa using hE
 clear hE
 go_enter Tryz.func43, Tryz.ntmps43
 go_wp2
 exact ⟨rfl, rfl, rfl⟩
theorem run_wrong (x : Value) (w : World) : (Instr.typeAssert (.iface 137 x) 20 137 true).run Tryz.prog w = .ok (.tuple #[x, .bool true]) w := by
 simp only [Instr.typeAssert, Sem.run_bind, run_underlying Tryz.underlying137, Result.andThen_ok]
 rfl
set_option maxRecDepth 100000 in
theorem recov_idle (p : Addr) (w : World) :
  CallsD Tryz.prog 101 #[.pointer (some p)] .returning w fun e u' w' => e = .returned (.tuple #[]) ∧ u' = .returning ∧ w' = w := by
 refine callsD_of_wpS Tryz.func101 rfl fun c₀ cs hu => ?_
 simp only [Tryz.ntmps101, List.size_toArray, List.length_cons, List.length_nil, Nat.reduceAdd, Nat.reduceSub, Array.replicate_succ, Array.replicate_zero, List.push_toArray, List.append_toArray, List.nil_append, List.cons_append]
 apply wpS_seq
 apply wpS_region
 simp [wpOpsS, go_sem, recoverD, hu, Exit.thenS]
 refine wpS_of_wp ?_
 go_wp2
 cases c₀
 simp_all [bodyPostS, results, Tryz.results101]
set_option maxRecDepth 100000 in
theorem recov_wrong (p : Addr) (x E : Int) (w : World) (hc : w.cell? p = some (.int .i64 x)) (hz : w.frozen? p = false) :
  CallsD Tryz.prog 101 #[.pointer (some p)] (.panicking [{ v := .iface 137 (.int .i64 E), recovered := false }]) w fun e u' w' =>
   e = .returned (.tuple #[]) ∧ u' = .panicking [{ v := .iface 137 (.int .i64 E), recovered := true }] ∧ w' = w.setCell p (.int .i64 E) := by
 have hta := run_wrong
 refine callsD_of_wpS Tryz.func101 rfl fun c₀ cs hu => ?_
 simp only [Tryz.ntmps101, List.size_toArray, List.length_cons, List.length_nil, Nat.reduceAdd, Nat.reduceSub, Array.replicate_succ, Array.replicate_zero, List.push_toArray, List.append_toArray, List.nil_append, List.cons_append]
 apply wpS_seq
 apply wpS_region
 simp [wpOpsS, go_sem, recoverD, hu, Exit.thenS]
 refine wpS_of_wp ?_
 go_wp2
 simp [bodyPostS, results, Tryz.results101]
set_option maxRecDepth 100000 in
theorem caught_any (f : FuncId) (caps : Array Value) (w : World) (R : Int → World → Prop)
  (hin : ∀ args w', (callFunc f args).run Tryz.prog w' = .ok (.enter f args) w')
  (h : Calls Tryz.prog f caps (w.alloc (.cells #[.int .i64 0] 36)) (fun e w' => ∃ E : Int, e = endN E ∧ R E w' ∧ Blk w' w.heap.size 36 #[.int .i64 0])) :
  Calls Tryz.prog 38 #[.func (.func f) #[] caps] w (fun e w' => ∃ (E : Int) (w1 : World), e = .returned (.int .i64 E) ∧ R E w1 ∧ Blk w1 w.heap.size 36 #[.int .i64 0] ∧ w' = w1.setCell ⟨w.heap.size, 0, none⟩ (.int .i64 E)) := by
 have hmf : ∀ (fn : Fn) (first cap : Array Value) (w : World), (Instr.makeFunc fn first cap).run Tryz.prog w = .ok (.func fn first cap) w := fun _ _ _ _ => rfl
 have H := Lib.hid h
 clear h
 go_enter_defers Tryz.func38, Tryz.ntmps38
 go_wp2_with fail
 with_reducible refine H.out.mono ?_
 rintro e w1 ⟨E, rfl, hR, hB⟩
 have HB := Lib.hid hB
 have HR := Lib.hid hR
 have c0 := hB.cell 0
 have f0 := hB.frozen 0
 clear hR hB
 by_cases hE : E = 0
 ·subst hE
  rw [endN_zero]
  go_wp2
  refine leaves_cons (f := 101) (args := #[.pointer (some ⟨w.heap.size, 0, none⟩)]) (by simp) (by simp [go_sem]) ?_
  refine (recov_idle ⟨w.heap.size, 0, none⟩ _).mono ?_
  rintro e u' w'' ⟨rfl, rfl, rfl⟩
  have hs := (HB.out.set_ 0 (.int .i64 0)).cell 0
  simp only [List.setIfInBounds_toArray, List.set_cons_zero] at hs
  simp [Leaves, settle, results, Tryz.results38, go_sem, hs]
  exact ⟨w1, HR.out, HB.out, rfl⟩
 ·rw [endN_not hE]
  clear hE
  go_wp2
  refine leaves_cons (f := 101) (args := #[.pointer (some ⟨w.heap.size, 0, none⟩)]) (by simp) (by simp [go_sem]) ?_
  refine (recov_wrong ⟨w.heap.size, 0, none⟩ 0 E _ c0 f0).mono ?_
  rintro e u' w'' ⟨rfl, rfl, rfl⟩
  have hs := (HB.out.set_ 0 (.int .i64 E)).cell 0
  simp only [List.setIfInBounds_toArray, List.set_cons_zero] at hs
  simp [Leaves, settle, results, Tryz.results38, go_sem, hs]
  exact ⟨w1, HR.out, HB.out, rfl⟩
end Go.Proofs.YtjpjalmilfgckaaGreatDoor
namespace Go.Proofs.YtjpjalmilfgckaaGreatDoor
open Go.RowKit
def okR (r : Nat) : Bool := decide (r < 55296 ∨ (57343 < r ∧ r ≤ 1114111))
def encR (r : Nat) : List Nat :=
 if r < 128 then [r] else if r < 2048 then [192 + r / 64, 128 + r % 64] else if r < 65536 then [224 + r / 4096, 128 + r / 64 % 64, 128 + r % 64]
 else [240 + r / 262144, 128 + r / 4096 % 64, 128 + r / 64 % 64, 128 + r % 64]
def headR (k a : Nat) : Nat := if k = 2 then a % 32 else if k = 3 then a % 16 else if k = 4 then a % 8 else a
def numR (l : List Nat) : Nat := match l with
 | [] => 0
 | a :: r => r.foldl (fun n b => 64 * n + b % 64) (headR (r.length + 1) a)
def nats (l : List UInt8) : List Nat := l.map UInt8.toNat
@[simp] theorem nats_length (l : List UInt8) : (nats l).length = l.length := by simp [nats]
def hitR (n : Nat) (l : List UInt8) : Bool := decide (n ≤ l.length) && okR (numR (nats (l.take n))) && decide (encR (numR (nats (l.take n))) = nats (l.take n))
theorem hit1 (n a b c d : Nat) (ha : a < 256) (h : encR (numR [a]) = [a]) : Lib.decodeN n a b c d = (a, 1) ∧ a < 128 := by
 simp only [numR, headR, List.foldl_nil, List.length_nil] at h
 simp only [Nat.zero_add, Nat.reduceEqDiff, if_false] at h
 have h128 : a < 128 := by
  unfold encR at h
  split at h
  ·assumption
  ·split at h
   ·simp at h
   ·omega
 unfold Lib.decodeN
 rw [if_pos h128]
 exact ⟨rfl, h128⟩
theorem hit2 (n a b c d : Nat) (hn : 2 ≤ n) (ha : a < 256) (hb : b < 256) (h : encR (numR [a, b]) = [a, b]) : (Lib.decodeN n a b c d).2 = 2 := by
 have hr : numR [a, b] = 64 * (a % 32) + b % 64 := by simp [numR, headR]
 rw [hr] at h
 generalize hrr : 64 * (a % 32) + b % 64 = r at h
 unfold encR at h
 split at h
 ·simp at h
 ·split at h
  ·simp only [List.cons.injEq, and_true] at h
   unfold Lib.decodeN
   rw [if_neg (by omega), if_pos (by omega), if_pos (by omega)]
  ·omega
theorem hit3 (n a b c d : Nat) (hn : 3 ≤ n) (ha : a < 256) (hb : b < 256) (hc : c < 256) (ho : okR (numR [a, b, c]) = true) (h : encR (numR [a, b, c]) = [a, b, c]) : (Lib.decodeN n a b c d).2 = 3 := by
 have hr : numR [a, b, c] = 64 * (64 * (a % 16) + b % 64) + c % 64 := by simp [numR, headR]
 rw [hr] at h ho
 generalize hrr : 64 * (64 * (a % 16) + b % 64) + c % 64 = r at h ho
 simp only [okR, decide_eq_true_eq] at ho
 unfold encR at h
 split at h
 ·simp at h
 ·split at h
  ·simp at h
  ·split at h
   ·simp only [List.cons.injEq, and_true] at h
    unfold Lib.decodeN
    rw [if_neg (by omega), if_neg (by omega), if_pos (by omega), if_pos (by omega)]
   ·simp at h
theorem hit4 (n a b c d : Nat) (hn : 4 ≤ n) (ha : a < 256) (hb : b < 256) (hc : c < 256) (hd : d < 256) (ho : okR (numR [a, b, c, d]) = true) (h : encR (numR [a, b, c, d]) = [a, b, c, d]) : (Lib.decodeN n a b c d).2 = 4 := by
 have hr : numR [a, b, c, d] = 64 * (64 * (64 * (a % 8) + b % 64) + c % 64) + d % 64 := by simp [numR, headR]
 rw [hr] at h ho
 generalize hrr : 64 * (64 * (64 * (a % 8) + b % 64) + c % 64) + d % 64 = r at h ho
 simp only [okR, decide_eq_true_eq] at ho
 unfold encR at h
 split at h
 ·simp at h
 ·split at h
  ·simp at h
  ·split at h
   ·simp at h
   ·simp only [List.cons.injEq, and_true] at h
    unfold Lib.decodeN
    rw [if_neg (by omega), if_neg (by omega), if_neg (by omega), if_pos (by omega), if_pos (by omega)]
theorem decode_hit (n a b c d : Nat) (ha : a < 256) (hb : b < 256) (hc : c < 256) (hd : d < 256) (hv : ¬ ((Lib.decodeN n a b c d).1 = 65533 ∧ (Lib.decodeN n a b c d).2 = 1)) :
  ((Lib.decodeN n a b c d).2 = 1 ∧ okR (numR [a]) = true ∧ encR (numR [a]) = [a]) ∨ ((Lib.decodeN n a b c d).2 = 2 ∧ 2 ≤ n ∧ okR (numR [a, b]) = true ∧ encR (numR [a, b]) = [a, b]) ∨
  ((Lib.decodeN n a b c d).2 = 3 ∧ 3 ≤ n ∧ okR (numR [a, b, c]) = true ∧ encR (numR [a, b, c]) = [a, b, c]) ∨ ((Lib.decodeN n a b c d).2 = 4 ∧ 4 ≤ n ∧ okR (numR [a, b, c, d]) = true ∧ encR (numR [a, b, c, d]) = [a, b, c, d]) := by
 have r1 : numR [a] = a := rfl
 have r2 : numR [a, b] = 64 * (a % 32) + b % 64 := by simp [numR, headR]
 have r3 : numR [a, b, c] = 64 * (64 * (a % 16) + b % 64) + c % 64 := by simp [numR, headR]
 have r4 : numR [a, b, c, d] = 64 * (64 * (64 * (a % 8) + b % 64) + c % 64) + d % 64 := by simp [numR, headR]
 rw [r1, r2, r3, r4]
 unfold Lib.decodeN at hv ⊢
 simp only [okR, decide_eq_true_eq]
 by_cases h1 : a < 128
 ·rw [if_pos h1] at hv ⊢
  left
  refine ⟨rfl, by omega, ?_⟩
  unfold encR
  rw [if_pos h1]
 ·rw [if_neg h1] at hv ⊢
  by_cases h2 : a / 32 = 6 ∧ (1 < n ∧ b / 64 = 2)
  ·rw [if_pos h2] at hv ⊢
   by_cases h3 : a % 32 * 64 + b % 64 ≥ 128
   ·rw [if_pos h3] at hv ⊢
    right; left
    refine ⟨rfl, by omega, by omega, ?_⟩
    unfold encR
    rw [if_neg (by omega), if_pos (by omega)]
    simp only [List.cons.injEq, and_true]
    omega
   ·rw [if_neg h3] at hv
    exact absurd ⟨rfl, rfl⟩ hv
  ·rw [if_neg h2] at hv ⊢
   by_cases h3 : a / 16 = 14 ∧ (1 < n ∧ b / 64 = 2) ∧ (2 < n ∧ c / 64 = 2)
   ·rw [if_pos h3] at hv ⊢
    by_cases h4 : a % 16 * 4096 + b % 64 * 64 + c % 64 ≥ 2048 ∧ (a % 16 * 4096 + b % 64 * 64 + c % 64 < 55296 ∨ (57344 ≤ a % 16 * 4096 + b % 64 * 64 + c % 64 ∧ a % 16 * 4096 + b % 64 * 64 + c % 64 ≤ 1114111))
    ·rw [if_pos h4] at hv ⊢
     right; right; left
     refine ⟨rfl, by omega, by omega, ?_⟩
     unfold encR
     rw [if_neg (by omega), if_neg (by omega), if_pos (by omega)]
     simp only [List.cons.injEq, and_true]
     omega
    ·rw [if_neg h4] at hv
     exact absurd ⟨rfl, rfl⟩ hv
   ·rw [if_neg h3] at hv ⊢
    by_cases h4 : a / 8 = 30 ∧ (1 < n ∧ b / 64 = 2) ∧ (2 < n ∧ c / 64 = 2) ∧ (3 < n ∧ d / 64 = 2)
    ·rw [if_pos h4] at hv ⊢
     by_cases h5 : a % 8 * 262144 + b % 64 * 4096 + c % 64 * 64 + d % 64 ≥ 65536 ∧ (a % 8 * 262144 + b % 64 * 4096 + c % 64 * 64 + d % 64 < 55296 ∨ (57344 ≤ a % 8 * 262144 + b % 64 * 4096 + c % 64 * 64 + d % 64 ∧ a % 8 * 262144 + b % 64 * 4096 + c % 64 * 64 + d % 64 ≤ 1114111))
     ·rw [if_pos h5] at hv ⊢
      right; right; right
      refine ⟨rfl, by omega, by omega, ?_⟩
      unfold encR
      rw [if_neg (by omega), if_neg (by omega), if_neg (by omega)]
      simp only [List.cons.injEq, and_true]
      omega
     ·rw [if_neg h5] at hv
      exact absurd ⟨rfl, rfl⟩ hv
    ·rw [if_neg h4] at hv
     exact absurd ⟨rfl, rfl⟩ hv
theorem nats_take1 (l : List UInt8) (h : 1 ≤ l.length) : nats (l.take 1) = [(l.getD 0 0).toNat] := by
 match l, h with
 | a :: l, _ => simp [nats]
theorem nats_take2 (l : List UInt8) (h : 2 ≤ l.length) : nats (l.take 2) = [(l.getD 0 0).toNat, (l.getD 1 0).toNat] := by
 match l, h with
 | a :: b :: l, _ => simp [nats]
theorem nats_take3 (l : List UInt8) (h : 3 ≤ l.length) : nats (l.take 3) = [(l.getD 0 0).toNat, (l.getD 1 0).toNat, (l.getD 2 0).toNat] := by
 match l, h with
 | a :: b :: c :: l, _ => simp [nats]
theorem nats_take4 (l : List UInt8) (h : 4 ≤ l.length) : nats (l.take 4) = [(l.getD 0 0).toNat, (l.getD 1 0).toNat, (l.getD 2 0).toNat, (l.getD 3 0).toNat] := by
 match l, h with
 | a :: b :: c :: d :: l, _ => simp [nats]
theorem hit_valid (l : List UInt8) (n : Nat) (h1 : 1 ≤ n) (h4 : n ≤ 4) (h : hitR n l = true) : l ≠ [] ∧ Lib.validD l = Lib.validD (l.drop n) := by
 simp only [hitR, Bool.and_eq_true, decide_eq_true_eq] at h
 obtain ⟨⟨hl, ho⟩, he⟩ := h
 have hne : l ≠ [] := fun h => by rw [h] at hl; simp at hl; omega
 refine ⟨hne, ?_⟩
 rw [Lib.validD_step l hne, Lib.decodeL_N]
 have k0 := (l.getD 0 0).toNat_lt
 have k1 := (l.getD 1 0).toNat_lt
 have k2 := (l.getD 2 0).toNat_lt
 have k3 := (l.getD 3 0).toNat_lt
 have hcase : n = 1 ∨ n = 2 ∨ n = 3 ∨ n = 4 := by omega
 rcases hcase with rfl | rfl | rfl | rfl
 ·rw [nats_take1 l hl] at he ho
  obtain ⟨e1, e2⟩ := hit1 l.length _ (l.getD 1 0).toNat (l.getD 2 0).toNat (l.getD 3 0).toNat k0 he
  rw [e1, if_neg (by simp only []; omega)]
 ·rw [nats_take2 l hl] at he ho
  have e1 := hit2 l.length _ _ (l.getD 2 0).toNat (l.getD 3 0).toNat hl k0 k1 he
  rw [if_neg (by omega), e1]
 ·rw [nats_take3 l hl] at he ho
  have e1 := hit3 l.length _ _ _ (l.getD 3 0).toNat hl k0 k1 k2 ho he
  rw [if_neg (by omega), e1]
 ·rw [nats_take4 l hl] at he ho
  have e1 := hit4 l.length _ _ _ _ hl k0 k1 k2 k3 ho he
  rw [if_neg (by omega), e1]
theorem no_hit (l : List UInt8) (hne : l ≠ []) (h : ∀ n, 1 ≤ n → n ≤ 4 → hitR n l = false) : Lib.validD l = false := by
 rw [Lib.validD_step l hne, Lib.decodeL_N]
 have k0 := (l.getD 0 0).toNat_lt
 have k1 := (l.getD 1 0).toNat_lt
 have k2 := (l.getD 2 0).toNat_lt
 have k3 := (l.getD 3 0).toNat_lt
 have hl : 1 ≤ l.length := List.length_pos_iff.2 hne
 by_cases hv : (Lib.decodeN l.length (l.getD 0 0).toNat (l.getD 1 0).toNat (l.getD 2 0).toNat (l.getD 3 0).toNat).1 = 65533 ∧ (Lib.decodeN l.length (l.getD 0 0).toNat (l.getD 1 0).toNat (l.getD 2 0).toNat (l.getD 3 0).toNat).2 = 1
 ·rw [if_pos hv]
 ·exfalso
  rcases decode_hit _ _ _ _ _ k0 k1 k2 k3 hv with ⟨_, h2, h3⟩ | ⟨_, hn, h2, h3⟩ | ⟨_, hn, h2, h3⟩ | ⟨_, hn, h2, h3⟩
  ·have := h 1 (by omega) (by omega)
   simp only [hitR, nats_take1 l hl, h2, h3] at this
   simp at this
   first | omega | exact hne this
  ·have := h 2 (by omega) (by omega)
   simp only [hitR, nats_take2 l hn, h2, h3] at this
   simp at this
   omega
  ·have := h 3 (by omega) (by omega)
   simp only [hitR, nats_take3 l hn, h2, h3] at this
   simp at this
   omega
  ·have := h 4 (by omega) (by omega)
   simp only [hitR, nats_take4 l hn, h2, h3] at this
   simp at this
   omega
end Go.Proofs.YtjpjalmilfgckaaGreatDoor
namespace Go.Proofs.YtjpjalmilfgckaaGreatDoor
open Go.RowKit
section
variable {P : Program}
theorem wpList_append_str {ops : Array Oper} {rest : List Oper} {o : Oper} {a : Act} {Q : Exit → Act → World → Prop} {w : World} (hgd : o.guard = none) (sl x : Operand) (t u : TypeId)
  (ho : o.op = .call { callee := .builtin .append, args := #[sl, x], argTypes := #[t, u] })
  (base : Nat) (e : TypeId) (i : TypeInfo) (ht : P.underlying t = some (.slice e)) (hu : P.underlying u = some .string) (hi : P.info? e = some i) (hz : i.zero = some (.int .u8 0))
  (hsize : i.size = 1) (hby : i.bytes = 1)
  (A : Option Addr) (n c : Nat) (xs : List UInt8) (hs : a.eval sl = .slice A n c) (hown : w.ownsRow base e 1 (.slice A n c) n (u8s xs)) (s : ByteArray) (hx : a.eval x = .string s)
  (h63 : n + s.data.toList.length ≤ 70368744177664) (hbase : base ≤ w.heap.size)
  (h : ∀ A' c' w', w'.ownsRow base e 1 (.slice A' (n + s.data.toList.length) c') (n + s.data.toList.length) (u8s (xs ++ s.data.toList)) → Below base w w' → w.grownBy w' (Value.slice A n c).ownBlock → n + s.data.toList.length ≤ c' → c' ≤ maxLen → wpList P ops Q rest (a.put o.dst (.slice A' (n + s.data.toList.length) c')) w') : wpList P ops Q (o :: rest) a w := by
 have hlen : s.data.toList.length = s.size := by rw [Array.length_toList]; rfl
 refine Lib.wpList_append_own_string w hgd sl x t u ho base e i ht hu hi hz hsize hby _ n _ hs hown s hx (by simp only [maxLen]; omega) (by omega) hbase ?_
 intro v' w' h1 h2 h3
 obtain ⟨A', c', rfl, h4, h5⟩ := own_shape h1
 rw [← hlen] at h1 h4 ⊢
 refine h A' c' w' ?_ ((Below.refl _ _).grown h2 hbase (fun k hk => (hown.lt k hk).1)) h2 h4 h5
 rw [u8s_append]
 exact h1
theorem wp_append_str {o : Oper} {a : Act} {K : Act → World → Prop} {Q : Exit → Act → World → Prop} {w : World} (sl x : Operand) (t u : TypeId)
  (ho : o.op = .call { callee := .builtin .append, args := #[sl, x], argTypes := #[t, u] })
  (base : Nat) (e : TypeId) (i : TypeInfo) (ht : P.underlying t = some (.slice e)) (hu : P.underlying u = some .string) (hi : P.info? e = some i) (hz : i.zero = some (.int .u8 0))
  (hsize : i.size = 1) (hby : i.bytes = 1)
  (A : Option Addr) (n c : Nat) (xs : List UInt8) (hs : a.eval sl = .slice A n c) (hown : w.ownsRow base e 1 (.slice A n c) n (u8s xs)) (s : ByteArray) (hx : a.eval x = .string s)
  (h63 : n + s.data.toList.length ≤ 70368744177664) (hbase : base ≤ w.heap.size)
  (h : ∀ A' c' w', w'.ownsRow base e 1 (.slice A' (n + s.data.toList.length) c') (n + s.data.toList.length) (u8s (xs ++ s.data.toList)) → Below base w w' → w.grownBy w' (Value.slice A n c).ownBlock → n + s.data.toList.length ≤ c' → c' ≤ maxLen → K (a.put o.dst (.slice A' (n + s.data.toList.length) c')) w') : o.wp P a w K Q := by
 have hlen : s.data.toList.length = s.size := by rw [Array.length_toList]; rfl
 obtain ⟨v', w', hrun, h2, h3, h4⟩ := Lib.run_append_own_string (P := P) w base t u o.type e i ht hu hi hz hsize hby _ n _ hown s (by simp only [maxLen]; omega) (by omega) hbase
 obtain ⟨A', c', rfl, h4, h5⟩ := own_shape h2
 unfold Oper.wp execOp
 simp only [ho, resolve, invoke, builtin, Sem.run_bind, Sem.run_pure, Result.andThen_ok, List.map_toArray, List.map_cons, List.map_nil, hs, hx, hrun]
 rw [← hlen] at h2 h4 ⊢
 refine h A' c' w' ?_ ((Below.refl _ _).grown h3 hbase (fun k hk => (hown.lt k hk).1)) h3 h4 h5
 rw [u8s_append]
 exact h2
end
end Go.Proofs.YtjpjalmilfgckaaGreatDoor
set_option linter.unusedSectionVars false
namespace Go.Proofs.YtjpjalmilfgckaaGreatDoor
section
variable {α : Type} [DecidableEq α]
def placeL : List α → α → Option Nat
 | [], _ => none
 | x :: r, s => if x = s then some 0 else (placeL r s).map (· + 1)
theorem placeL_none : ∀ (d : List α) (s : α), placeL d s = none ↔ s ∉ d
 | [], s => by simp [placeL]
 | x :: r, s => by
  unfold placeL
  split
  ·rename_i h; subst h; simp
  ·rename_i h
   rw [Option.map_eq_none_iff, placeL_none r s, List.mem_cons, not_or]
   exact ⟨fun h2 => ⟨fun e => h e.symm, h2⟩, fun h2 => h2.2⟩
theorem placeL_some : ∀ (d : List α) (s : α) (k : Nat), placeL d s = some k → d[k]? = some s
 | x :: r, s, k, h => by
  unfold placeL at h
  split at h
  ·rename_i e
   obtain rfl := Option.some.inj h
   simp [e]
  ·obtain ⟨j, hj, rfl⟩ := Option.map_eq_some_iff.1 h
   simpa using placeL_some r s j hj
theorem placeL_nodup : ∀ (d : List α) (s : α) (k : Nat), d.Nodup → d[k]? = some s → placeL d s = some k
 | x :: r, s, 0, hn, h => by
  obtain rfl : x = s := by simpa using h
  simp [placeL]
 | x :: r, s, k + 1, hn, h => by
  have h' : r[k]? = some s := by simpa using h
  have hm : s ∈ r := List.mem_of_getElem? h'
  have hx : x ≠ s := fun e => (List.nodup_cons.1 hn).1 (e ▸ hm)
  simp [placeL, hx, placeL_nodup r s k (List.nodup_cons.1 hn).2 h']
def splitStep (st : List α × List Nat) (s : α) : List α × List Nat :=
 match placeL st.1 s with
 | some k => (st.1, st.2 ++ [k])
 | none => (st.1 ++ [s], st.2 ++ [st.1.length])
def splitL (l : List α) : List α × List Nat := l.foldl splitStep ([], [])
def usedL : Nat → List Nat → Option Nat
 | u, [] => some u
 | u, n :: r => if u < n then none else usedL (if n = u then u + 1 else u) r
theorem splitL_snoc (l : List α) (s : α) : splitL (l ++ [s]) = splitStep (splitL l) s := by simp [splitL, List.foldl_append]
theorem split_of_used (d : List α) (hd : d.Nodup) : ∀ (ns : List Nat) (u v : Nat) (acc : List Nat) (l : List α), u ≤ d.length → ns.map (d[·]?) = l.map some → usedL u ns = some v →
  v ≤ d.length ∧ l.foldl splitStep (d.take u, acc) = (d.take v, acc ++ ns)
 | [], u, v, acc, l, hu, hl, h => by
  obtain rfl : l = [] := by simpa using hl.symm
  obtain rfl : u = v := by simpa [usedL] using h
  exact ⟨hu, by simp⟩
 | n :: r, u, v, acc, [], hu, hl, h => by simp at hl
 | n :: r, u, v, acc, s :: l, hu, hl, h => by
  simp only [List.map_cons, List.cons.injEq] at hl
  obtain ⟨h1, h2⟩ := hl
  unfold usedL at h
  split at h
  ·cases h
  ·rename_i hnu
   have hlt : n < d.length := (List.getElem?_eq_some_iff.1 h1).1
   rw [List.foldl_cons]
   by_cases e : n = u
   ·subst e
    rw [if_pos rfl] at h
    have hno : placeL (d.take n) s = none := by
     rw [placeL_none]
     intro hm
     obtain ⟨j, hj⟩ := List.getElem?_of_mem hm
     rw [List.getElem?_take] at hj
     split at hj
     ·rename_i hjn
      have a := placeL_nodup d s j hd hj
      have b := placeL_nodup d s n hd h1
      rw [a] at b
      have := Option.some.inj b
      omega
     ·cases hj
    have hs : splitStep (d.take n, acc) s = (d.take (n + 1), acc ++ [n]) := by
     unfold splitStep
     simp only [hno]
     rw [List.length_take, Nat.min_eq_left hu, List.take_add_one, h1]
     rfl
    rw [hs]
    obtain ⟨hv, hr⟩ := split_of_used d hd r (n + 1) v (acc ++ [n]) l hlt h2 h
    exact ⟨hv, by rw [hr]; simp⟩
   ·rw [if_neg e] at h
    have hyes : placeL (d.take u) s = some n := placeL_nodup _ s n (hd.sublist (List.take_sublist _ _)) (by rw [List.getElem?_take, if_pos (by omega), h1])
    have hs : splitStep (d.take u, acc) s = (d.take u, acc ++ [n]) := by
     unfold splitStep
     simp only [hyes]
    rw [hs]
    obtain ⟨hv, hr⟩ := split_of_used d hd r u v (acc ++ [n]) l hu h2 h
    exact ⟨hv, by rw [hr]; simp⟩
theorem used_of_split : ∀ (l : List α) (d0 : List α) (acc : List Nat), d0.Nodup →
  ∃ (d : List α) (ns : List Nat), l.foldl splitStep (d0, acc) = (d, acc ++ ns) ∧ d0 <+: d ∧ d.Nodup ∧ usedL d0.length ns = some d.length ∧ ns.map (d[·]?) = l.map some
 | [], d0, acc, h => ⟨d0, [], by simp, List.prefix_refl _, h, rfl, rfl⟩
 | s :: l, d0, acc, h => by
  rw [List.foldl_cons]
  rcases hp : placeL d0 s with _ | k
  ·have hs : splitStep (d0, acc) s = (d0 ++ [s], acc ++ [d0.length]) := by unfold splitStep; simp only [hp]
   have hno := (placeL_none d0 s).1 hp
   have hnd : (d0 ++ [s]).Nodup := by
    rw [List.nodup_append]
    exact ⟨h, by simp, fun a ha b hb => by rw [List.mem_singleton] at hb; subst hb; exact fun e => hno (e ▸ ha)⟩
   obtain ⟨d, ns, e1, e2, e3, e4, e5⟩ := used_of_split l (d0 ++ [s]) (acc ++ [d0.length]) hnd
   refine ⟨d, d0.length :: ns, by rw [hs, e1]; simp, (List.prefix_append _ _).trans e2, e3, ?_, ?_⟩
   ·unfold usedL
    rw [if_neg (by omega), if_pos rfl]
    simpa using e4
   ·rw [List.map_cons, List.map_cons, e5]
    congr 1
    obtain ⟨t, rfl⟩ := e2
    simp
  ·have hs : splitStep (d0, acc) s = (d0, acc ++ [k]) := by unfold splitStep; simp only [hp]
   have hk := placeL_some d0 s k hp
   have hlt : k < d0.length := (List.getElem?_eq_some_iff.1 hk).1
   obtain ⟨d, ns, e1, e2, e3, e4, e5⟩ := used_of_split l d0 (acc ++ [k]) h
   refine ⟨d, k :: ns, by rw [hs, e1]; simp, e2, e3, ?_, ?_⟩
   ·unfold usedL
    rw [if_neg (by omega), if_neg (by omega)]
    exact e4
   ·rw [List.map_cons, List.map_cons, e5]
    congr 1
    obtain ⟨t, rfl⟩ := e2
    rw [List.getElem?_append_left hlt, hk]
theorem splitL_used (l : List α) : (splitL l).1.Nodup ∧ usedL 0 (splitL l).2 = some (splitL l).1.length ∧ (splitL l).2.map ((splitL l).1[·]?) = l.map some := by
 obtain ⟨d, ns, e1, e2, e3, e4, e5⟩ := used_of_split l [] [] List.nodup_nil
 unfold splitL
 rw [e1]
 exact ⟨e3, e4, e5⟩
theorem map_some_of (d : List α) : ∀ (ns : List Nat), (∀ n ∈ ns, n < d.length) → ns.map (d[·]?) = (ns.filterMap (d[·]?)).map some
 | [], _ => rfl
 | n :: r, h => by
  have hn := List.getElem?_eq_getElem (h n (by simp))
  rw [List.map_cons, List.filterMap_cons, hn]
  simp only [List.map_cons]
  rw [map_some_of d r (fun m hm => h m (by simp [hm]))]
end
theorem zpA {α : Type} (l : List α) (i : Nat) (a : α) : l.toArray.setIfInBounds i a = (l.set i a).toArray := List.setIfInBounds_toArray ..
theorem zpB {α : Type} (x : α) (l : List α) (i : Nat) (a : α) : (x :: l).set (i + 1) a = x :: l.set i a := rfl
theorem zpC {α : Type} (x : α) (l : List α) (a : α) : (x :: l).set 0 a = a :: l := rfl
end Go.Proofs.YtjpjalmilfgckaaGreatDoor
