/- Part 29 of the walks, merged: each text under its own heading. Conditions: none of its own; each lemma states what it asks. -/
import Derived.Test.YtjpjalmilfgckaaGreatDoorBk7
import Derived.Test.YtjpjalmilfgckaaGreatDoorBk28
set_option linter.unusedVariables false
set_option linter.unusedSimpArgs false
namespace Go.Proofs.YtjpjalmilfgckaaGreatDoor
open Go.RowKit
def rowKa : List Cl := [(false, 1, ⟨#[]⟩), (false, 0, ⟨#[98]⟩)]
def rowKb : List Cl := [(false, 7, ⟨#[]⟩), (false, 0, ⟨#[]⟩)]
def itKn : List It := [(rowKa, 2), (rowKa, 2), (rowKb, -9223372036854775808)]
def endL : List Int := [-9223372036854775808, -1, 0, 1, 127, 128, 2147483647, 2147483648, 9223372036854775807]
def endB (i : Nat) : Int := (endL[i]?).getD 0
theorem endB_in {i : Nat} (h : i < 9) : -9223372036854775808 ≤ endB i ∧ endB i ≤ 9223372036854775807 := by
 rcases (show i = 0 ∨ i = 1 ∨ i = 2 ∨ i = 3 ∨ i = 4 ∨ i = 5 ∨ i = 6 ∨ i = 7 ∨ i = 8 by omega) with rfl | rfl | rfl | rfl | rfl | rfl | rfl | rfl | rfl <;> decide
theorem itKn_ok : ItOk itKn := okB_it _ (by kernel_rfl)
theorem itKn_take (m : Nat) : ItOk (itKn.take m) := fun it hit => itKn_ok it (List.mem_of_mem_take hit)
structure KnB (w wc : World) : Prop where
 below : Below w.heap.size w wc
 items : ItemsAt wc wc.heap.size (some ⟨w.heap.size + 3, 0, none⟩) 3 itKn
 ends : Blk wc (w.heap.size + 4) 3 #[.int .i64 (-9223372036854775808), .int .i64 (-1), .int .i64 0, .int .i64 1, .int .i64 127, .int .i64 128, .int .i64 2147483647, .int .i64 2147483648, .int .i64 9223372036854775807]
 tab : Tab2 wc.heap.size wc
theorem KnB.on {w wc w' : World} (h : KnB w wc) (hb : Below wc.heap.size wc w') : KnB w w' := ⟨bon h.below hb, h.items.on hb, h.ends.on hb, h.tab.on hb⟩
theorem KnB.al {w wc : World} (h : KnB w wc) (o : Obj) : KnB w (wc.alloc o) := h.on (bal (Below.refl _ _) o)
theorem KnB.end_ {w wc : World} (h : KnB w wc) {i : Nat} (hi : i < 9) : wc.cell? ⟨w.heap.size + 4, i, none⟩ = some (.int .i64 (endB i)) := by
 rw [h.ends.cell]
 rcases (show i = 0 ∨ i = 1 ∨ i = 2 ∨ i = 3 ∨ i = 4 ∨ i = 5 ∨ i = 6 ∨ i = 7 ∨ i = 8 by omega) with rfl | rfl | rfl | rfl | rfl | rfl | rfl | rfl | rfl <;> rfl
theorem kb_mem (w : World) (hT : Tab2 w.heap.size w) : ∀ W, W = (((((w.alloc (.cells #[.bool false, .int .i64 1, .string ⟨#[]⟩, .bool false, .int .i64 0, .string ⟨#[98]⟩] 23)).alloc (.cells #[.bool false, .int .i64 1, .string ⟨#[]⟩, .bool false, .int .i64 0, .string ⟨#[98]⟩] 23)).alloc (.cells #[.bool false, .int .i64 7, .string ⟨#[]⟩, .bool false, .int .i64 0, .string ⟨#[]⟩] 23)).alloc (.cells #[.slice (some ⟨w.heap.size, 0, none⟩) 2 2, .int .i64 2, .slice (some ⟨w.heap.size + 1, 0, none⟩) 2 2, .int .i64 2, .slice (some ⟨w.heap.size + 2, 0, none⟩) 2 2, .int .i64 (-9223372036854775808)] 26)).alloc (.cells #[.int .i64 (-9223372036854775808), .int .i64 (-1), .int .i64 0, .int .i64 1, .int .i64 127, .int .i64 128, .int .i64 2147483647, .int .i64 2147483648, .int .i64 9223372036854775807] 3)) → KnB w W := by
 intro W hW
 obtain ⟨W1, h1⟩ : ∃ W1, W1 = w.alloc (.cells #[.bool false, .int .i64 1, .string ⟨#[]⟩, .bool false, .int .i64 0, .string ⟨#[98]⟩] 23) := ⟨_, rfl⟩
 obtain ⟨W2, h2⟩ : ∃ W2, W2 = W1.alloc (.cells #[.bool false, .int .i64 1, .string ⟨#[]⟩, .bool false, .int .i64 0, .string ⟨#[98]⟩] 23) := ⟨_, rfl⟩
 obtain ⟨W3, h3⟩ : ∃ W3, W3 = W2.alloc (.cells #[.bool false, .int .i64 7, .string ⟨#[]⟩, .bool false, .int .i64 0, .string ⟨#[]⟩] 23) := ⟨_, rfl⟩
 obtain ⟨W4, h4⟩ : ∃ W4, W4 = W3.alloc (.cells #[.slice (some ⟨w.heap.size, 0, none⟩) 2 2, .int .i64 2, .slice (some ⟨w.heap.size + 1, 0, none⟩) 2 2, .int .i64 2, .slice (some ⟨w.heap.size + 2, 0, none⟩) 2 2, .int .i64 (-9223372036854775808)] 26) := ⟨_, rfl⟩
 rw [← h1, ← h2, ← h3, ← h4] at hW
 have s1 : W1.heap.size = w.heap.size + 1 := by rw [h1]; simp
 have s2 : W2.heap.size = w.heap.size + 2 := by rw [h2]; simp [s1]
 have s3 : W3.heap.size = w.heap.size + 3 := by rw [h3]; simp [s2]
 have s4 : W4.heap.size = w.heap.size + 4 := by rw [h4]; simp [s3]
 have B1 : Blk W1 w.heap.size 23 #[.bool false, .int .i64 1, .string ⟨#[]⟩, .bool false, .int .i64 0, .string ⟨#[98]⟩] := by rw [h1]; exact Blk.new _ _ _
 have B2 : Blk W2 (w.heap.size + 1) 23 #[.bool false, .int .i64 1, .string ⟨#[]⟩, .bool false, .int .i64 0, .string ⟨#[98]⟩] := by rw [h2, ← s1]; exact Blk.new _ _ _
 have B3 : Blk W3 (w.heap.size + 2) 23 #[.bool false, .int .i64 7, .string ⟨#[]⟩, .bool false, .int .i64 0, .string ⟨#[]⟩] := by rw [h3, ← s2]; exact Blk.new _ _ _
 have B4 : Blk W4 (w.heap.size + 3) 26 #[.slice (some ⟨w.heap.size, 0, none⟩) 2 2, .int .i64 2, .slice (some ⟨w.heap.size + 1, 0, none⟩) 2 2, .int .i64 2, .slice (some ⟨w.heap.size + 2, 0, none⟩) 2 2, .int .i64 (-9223372036854775808)] := by rw [h4, ← s3]; exact Blk.new _ _ _
 have BE : Blk W (w.heap.size + 4) 3 #[.int .i64 (-9223372036854775808), .int .i64 (-1), .int .i64 0, .int .i64 1, .int .i64 127, .int .i64 128, .int .i64 2147483647, .int .i64 2147483648, .int .i64 9223372036854775807] := by rw [hW, ← s4]; exact Blk.new _ _ _
 have b4 : Below W4.heap.size W4 W := by rw [hW]; exact bal (Below.refl _ _) _
 have b3 : Below W3.heap.size W3 W := bon (by rw [h4]; exact bal (Below.refl _ _) _) b4
 have b2 : Below W2.heap.size W2 W := bon (by rw [h3]; exact bal (Below.refl _ _) _) b3
 have b1 : Below W1.heap.size W1 W := bon (by rw [h2]; exact bal (Below.refl _ _) _) b2
 have b0 : Below w.heap.size w W := bon (by rw [h1]; exact bal (Below.refl _ _) _) b1
 have r1 := (B1.on b1).readsN 3 2 (cls rowKa) rfl rfl
 have r2 := (B2.on b2).readsN 3 2 (cls rowKa) rfl rfl
 have r3 := (B3.on b3).readsN 3 2 (cls rowKb) rfl rfl
 refine ⟨b0, ⟨[(some ⟨w.heap.size, 0, none⟩, 2, 2), (some ⟨w.heap.size + 1, 0, none⟩, 2, 2), (some ⟨w.heap.size + 2, 0, none⟩, 2, 2)], (B4.on b4).readsN 2 3 _ rfl rfl, ?_⟩, BE, hT.on b0⟩
 exact ((RowsAt.nil.snoc (h := (some ⟨w.heap.size, 0, none⟩, 2, 2)) (it := (rowKa, 2)) r1 (Nat.le_refl 2) (show 2 ≤ maxLen by decide)).snoc (h := (some ⟨w.heap.size + 1, 0, none⟩, 2, 2)) (it := (rowKa, 2)) r2 (Nat.le_refl 2) (show 2 ≤ maxLen by decide)).snoc (h := (some ⟨w.heap.size + 2, 0, none⟩, 2, 2)) (it := (rowKb, -9223372036854775808)) r3 (Nat.le_refl 2) (show 2 ≤ maxLen by decide)
def xKn : List UInt8 := encA twoC (5, 6, itKn)
theorem xKn_fits : batE twoC (5, 6, itKn) = 0 := by kernel_rfl
theorem xKn_len : xKn.length = 32 := by kernel_rfl
theorem twoC_ok : CoOk twoC := by
 intro c hc
 simp only [twoC, List.mem_cons, List.not_mem_nil, or_false] at hc
 rcases hc with rfl | rfl <;> simp
def coB : Co := (0, ⟨#[]⟩, 1, false, false, 0, ⟨#[]⟩)
def coZ : Co := (0, ⟨#[]⟩, 0, false, false, 0, ⟨#[]⟩)
def manyC (j : Nat) : List Co := List.replicate j coB ++ List.replicate (33 - j) coZ
theorem manyC_ok (l : List Co) (h : ∀ c ∈ l, c = coB ∨ c = coZ) : CoOk l := by
 intro c hc
 rcases h c hc with rfl | rfl <;> simp [coB, coZ]
theorem manyC_mem (j : Nat) : ∀ c ∈ manyC j, c = coB ∨ c = coZ := by
 intro c hc
 rcases List.mem_append.1 hc with h | h
 ·exact .inl (List.eq_of_mem_replicate h)
 ·exact .inr (List.eq_of_mem_replicate h)
theorem manyC_set {j : Nat} (h : j < 33) : (cos (manyC j)).set (j * 7 + 2) (.int .i64 1) = cos (manyC (j + 1)) := by
 have key : ((List.range 33).all fun k => decide ((cos (manyC k)).length = 231)) = true := by kernel_rfl
 obtain ⟨d, hd⟩ : ∃ d, 33 = j + 1 + d := ⟨32 - j, by omega⟩
 have e1 : manyC j = List.replicate j coB ++ (coZ :: List.replicate d coZ) := by
  unfold manyC
  rw [show 33 - j = d + 1 by omega, List.replicate_succ]
 have e2 : manyC (j + 1) = List.replicate j coB ++ (coB :: List.replicate d coZ) := by
  unfold manyC
  rw [show 33 - (j + 1) = d by omega, List.replicate_succ', List.append_assoc]
  rfl
 rw [e1, e2]
 have hl : (cos (List.replicate j coB)).length = j * 7 := by rw [cos_length, List.length_replicate]; omega
 have e3 : ∀ x (t : List Co), cos (List.replicate j coB ++ (x :: t)) = cos (List.replicate j coB) ++ (coV x ++ cos t) := fun x t => by simp [cos]
 rw [e3, e3, List.set_append_right _ _ (by omega), hl, Nat.add_sub_cancel_left]
 rfl
theorem wp_append_app {P : Program} (w : World) {o : Oper} {a : Act} {K : Act → World → Prop} {Q : Exit → Act → World → Prop} (s x : Operand) (t : TypeId)
  (ho : o.op = .call { callee := .builtin .append, args := #[s, x], argTypes := #[t, t] })
  (base : Nat) (e : TypeId) (i : TypeInfo) (z : Value) (size bytes : Nat) (ht : P.underlying t = some (.slice e)) (hi : P.info? e = some i) (hz : i.zero = some z)
  (hsize : i.size = size) (hby : i.bytes = bytes) (hzs : z.cells.size = size) (hsz : 0 < size)
  (A0 : Option Addr) (n c0 : Nat) (xs : List Value) (hs : a.eval s = .slice A0 n c0) (happ : App w base e size A0 n c0 xs)
  (A : Option Addr) (m c : Nat) (news : List Value) (hx : a.eval x = .slice A m c) (hr : Reads w w.heap.size size A m news) (h1 : ∀ u ∈ news, u.oneCell' = true)
  (hm : 0 < m) (h63 : n + m ≤ maxLen) (hbytes : (n + m) * bytes ≤ 70368744177664) (hbase : base ≤ w.heap.size)
  (h : ∀ A' c' w', w'.ownsRow base e size (.slice A' (n + m) c') (n + m) (xs ++ news) → Below base w w' → w.grownBy w' (Value.slice A0 n c0).ownBlock → n + m ≤ c' → c' ≤ maxLen → K (a.put o.dst (.slice A' (n + m) c')) w') : o.wp P a w K Q := by
 obtain ⟨A', c', w', hrun, h2, h3, h4, h5, h6⟩ := run_append_app (P := P) w base t o.type e i z size bytes ht hi hz hsize hby hzs hsz A0 n c0 xs happ A m c news hr h1 hm h63 hbytes hbase
 unfold Oper.wp execOp
 simp only [ho, resolve, invoke, builtin, Sem.run_bind, Sem.run_pure, Result.andThen_ok, List.map_toArray, List.map_cons, List.map_nil, hs, hx, hrun]
 exact h A' c' w' h2 h3 h4 h5 h6
structure XnB (w : World) (A : Option Addr) (n : Nat) (xs : List UInt8) (wc : World) : Prop where
 below : Below w.heap.size w wc
 x : Reads wc wc.heap.size 1 A n (u8s xs)
 tab : Tab2 wc.heap.size wc
theorem XnB.on {w wc w' : World} {A : Option Addr} {n : Nat} {xs : List UInt8} (h : XnB w A n xs wc) (hb : Below wc.heap.size wc w') : XnB w A n xs w' := ⟨bon h.below hb, h.x.on hb, h.tab.on hb⟩
theorem XnB.al {w wc : World} {A : Option Addr} {n : Nat} {xs : List UInt8} (h : XnB w A n xs wc) (o : Obj) : XnB w A n xs (wc.alloc o) := h.on (bal (Below.refl _ _) o)
end Go.Proofs.YtjpjalmilfgckaaGreatDoor
namespace Go.Proofs.YtjpjalmilfgckaaGreatDoor
inductive PlanB where
 | done
 | pure (i : Nat) (p : PlanB)
 | eff (i : Nat) (p : PlanB)
 | fork (i j : Nat) (p q : PlanB)
 | both (i j : Nat) (p : PlanB)
section
variable {P : Program} {md : Region.Mode} {ops : Array Oper} {Q : Exit → Act → World → Prop} {S : World → Prop}
def wpPlb (P : Program) (ops : Array Oper) (Q : Exit → Act → World → Prop) (S : World → Prop) : PlanB → Act → World → Prop
 | .done, a, w => Q .normal a w
 | .eff i p, a, w => ∃ o, ops[i]? = some o ∧ ∀ K : Act → World → Prop, (∀ a w, S w → wpPlb P ops Q S p a w → K a w) → if Region.wanted o (yielded ops a.tmps) then o.wp P a w K Q else K (a.put o.dst undef) w
 | .pure i p, a, w => ∃ o v, ops[i]? = some o ∧ YieldsIf P ops S o v a ∧ S w ∧ wpPlb P ops Q S p (a.put o.dst v) w
 | .fork i j p q, a, w => (∃ o, ops[i]? = some o ∧ ∀ K : Act → World → Prop, (∀ a w, S w → wpPlb P ops Q S p a w → K a w) → if Region.wanted o (yielded ops a.tmps) then o.wp P a w K Q else K (a.put o.dst undef) w) ∧
   (∃ o, ops[j]? = some o ∧ ∀ K : Act → World → Prop, (∀ a w, S w → wpPlb P ops Q S q a w → K a w) → if Region.wanted o (yielded ops a.tmps) then o.wp P a w K Q else K (a.put o.dst undef) w)
 | .both i j p, a, w => (∃ o, ops[i]? = some o ∧ ∀ K : Act → World → Prop, (∀ a w, S w → (∃ o, ops[j]? = some o ∧ ∀ K : Act → World → Prop, (∀ a w, S w → wpPlb P ops Q S p a w → K a w) → if Region.wanted o (yielded ops a.tmps) then o.wp P a w K Q else K (a.put o.dst undef) w) → K a w) → if Region.wanted o (yielded ops a.tmps) then o.wp P a w K Q else K (a.put o.dst undef) w) ∧
   (∃ o, ops[j]? = some o ∧ ∀ K : Act → World → Prop, (∀ a w, S w → (∃ o, ops[i]? = some o ∧ ∀ K : Act → World → Prop, (∀ a w, S w → wpPlb P ops Q S p a w → K a w) → if Region.wanted o (yielded ops a.tmps) then o.wp P a w K Q else K (a.put o.dst undef) w) → K a w) → if Region.wanted o (yielded ops a.tmps) then o.wp P a w K Q else K (a.put o.dst undef) w)
theorem plb_pure {i : Nat} {o : Oper} {d : Tmp} {p : PlanB} {a : Act} {w : World} {v : Value} (ho : ops[i]? = some o) (hd : o.dst = some d) (hw : Region.wanted o (yielded ops a.tmps) = true) (hS : S w)
  (hy : ∀ w, S w → (execOp a.eval o).run P w = .ok (.value v) w) (h : wpPlb P ops Q S p { tmps := a.tmps.setIfInBounds d v, defers := a.defers } w) : wpPlb P ops Q S (.pure i p) a w :=
 ⟨o, v, ho, .inl ⟨hw, hy⟩, hS, by rw [hd]; exact h⟩
theorem plb_eff1 {i : Nat} {o : Oper} {p : PlanB} {a : Act} {w : World} (ho : ops[i]? = some o) (hw : Region.wanted o (yielded ops a.tmps) = true)
  (h : ∀ K : Act → World → Prop, (∀ a w, S w → wpPlb P ops Q S p a w → K a w) → o.wp P a w K Q) : wpPlb P ops Q S (.eff i p) a w :=
 ⟨o, ho, fun K hK => by rw [if_pos hw]; exact h K hK⟩
theorem plb_both {i j : Nat} {p : PlanB} {a : Act} {w : World} (h1 : wpPlb P ops Q S (.eff i (.eff j p)) a w) (h2 : wpPlb P ops Q S (.eff j (.eff i p)) a w) : wpPlb P ops Q S (.both i j p) a w := ⟨h1, h2⟩
theorem plb_end {a : Act} {w : World} (h : Q .normal a w) : wpPlb P ops Q S .done a w := h
def plbB (md : Region.Mode) (ops : Array Oper) : PlanB → Array Bool → Bool
 | .done, listed => (Region.ready md ops listed).isEmpty
 | .eff i p, listed => Region.ready md ops listed == [i] && plbB md ops p (listed.setIfInBounds i true)
 | .pure i p, listed => Region.free md ops listed i && (Region.ready md ops listed).contains i && plbB md ops p (listed.setIfInBounds i true)
 | .fork i j p q, listed => Region.ready md ops listed == [i, j] && plbB md ops p (listed.setIfInBounds i true) && plbB md ops q (listed.setIfInBounds j true)
 | .both i j p, listed => (i != j) && (Region.ready md ops listed == [i, j] && (Region.ready md ops (listed.setIfInBounds i true) == [j] && (Region.ready md ops (listed.setIfInBounds j true) == [i] && plbB md ops p ((listed.setIfInBounds i true).setIfInBounds j true))))
def plbN : PlanB → Nat
 | .done => 0
 | .eff _ p => plbN p + 1
 | .pure _ p => plbN p + 1
 | .fork _ _ p q => max (plbN p) (plbN q) + 1
 | .both _ _ p => plbN p + 2
theorem wpAnyH_of_plb (hs : Region.noSelect ops = true) (hQ : ∀ d v c a w, Q (.panic c) (Act.put a d v) w → Q (.panic c) a w) :
  ∀ (l : PlanB) (fuel : Nat) (listed : Array Bool) (a : Act) (w : World), plbN l ≤ fuel → plbB md ops l listed = true → wpPlb P ops Q S l a w → wpAnyH P md ops Q S fuel listed a w := by
 intro l
 induction l with
 | done =>
  intro fuel listed a w _ ho h
  have hr : Region.ready md ops listed = [] := by simpa [plbB] using ho
  exact wpAnyH_done hr h fuel
 | eff i p ih =>
  intro fuel listed a w hf ho h
  simp only [plbN] at hf
  obtain ⟨fuel, rfl⟩ : ∃ f, fuel = f + 1 := ⟨fuel - 1, by omega⟩
  simp only [plbB, Bool.and_eq_true, beq_iff_eq] at ho
  obtain ⟨o, hoi, hl⟩ := h
  refine wpAnyH_all ho.1 (by simp) fun j hj => ?_
  obtain rfl : j = i := by simpa using hj
  unfold wpOp
  simp only [hoi]
  have := hl (fun a' w' => S w' ∧ wpAnyH P md ops Q S fuel (listed.setIfInBounds j true) a' w') (fun a w hS h => ⟨hS, ih fuel _ a w (by omega) ho.2 h⟩)
  split at this
  ·rename_i hw
   simp only [hw, if_true]
   exact .inl this
  ·rename_i hw
   simp only [hw, if_false, Bool.false_eq_true]
   exact this
 | pure i p ih =>
  intro fuel listed a w hf ho h
  simp only [plbN] at hf
  obtain ⟨fuel, rfl⟩ : ∃ f, fuel = f + 1 := ⟨fuel - 1, by omega⟩
  simp only [plbB, Bool.and_eq_true] at ho
  obtain ⟨o, v, hoi, hy, hS, hl⟩ := h
  exact wpAnyH_take hoi hs ho.1.1 ho.1.2 (fun c a w => hQ _ _ c a w) hy hS (ih fuel _ _ w (by omega) ho.2 hl)
 | fork i j p q ih1 ih2 =>
  intro fuel listed a w hf ho h
  simp only [plbN] at hf
  obtain ⟨fuel, rfl⟩ : ∃ f, fuel = f + 1 := ⟨fuel - 1, by omega⟩
  simp only [plbB, Bool.and_eq_true, beq_iff_eq] at ho
  refine wpAnyH_all ho.1.1 (by simp) fun k hk => ?_
  have hk' : k = i ∨ k = j := by simpa using hk
  rcases hk' with rfl | rfl
  ·obtain ⟨o, hoi, hl⟩ := h.1
   unfold wpOp
   simp only [hoi]
   have := hl (fun a' w' => S w' ∧ wpAnyH P md ops Q S fuel (listed.setIfInBounds k true) a' w') (fun a w hS h => ⟨hS, ih1 fuel _ a w (by omega) ho.1.2 h⟩)
   split at this
   ·rename_i hw
    simp only [hw, if_true]
    exact .inl this
   ·rename_i hw
    simp only [hw, if_false, Bool.false_eq_true]
    exact this
  ·obtain ⟨o, hoi, hl⟩ := h.2
   unfold wpOp
   simp only [hoi]
   have := hl (fun a' w' => S w' ∧ wpAnyH P md ops Q S fuel (listed.setIfInBounds k true) a' w') (fun a w hS h => ⟨hS, ih2 fuel _ a w (by omega) ho.2 h⟩)
   split at this
   ·rename_i hw
    simp only [hw, if_true]
    exact .inl this
   ·rename_i hw
    simp only [hw, if_false, Bool.false_eq_true]
    exact this
 | both i j p ih =>
  intro fuel listed a w hf ho h
  simp only [plbN] at hf
  obtain ⟨fuel, rfl⟩ : ∃ f, fuel = f + 1 + 1 := ⟨fuel - 2, by omega⟩
  simp only [plbB, Bool.and_eq_true, beq_iff_eq, bne_iff_ne, ne_eq] at ho
  have hne : i ≠ j := ho.1
  refine wpAnyH_all ho.2.1 (by simp) fun k hk => ?_
  have hk' : k = i ∨ k = j := by simpa using hk
  rcases hk' with rfl | rfl
  ·obtain ⟨o, hoi, hl⟩ := h.1
   unfold wpOp
   simp only [hoi]
   have := hl (fun a' w' => S w' ∧ wpAnyH P md ops Q S (fuel + 1) (listed.setIfInBounds k true) a' w') (fun a w hS h3 => ⟨hS, by
    refine wpAnyH_all ho.2.2.1 (by simp) fun k2 hk2 => ?_
    obtain rfl : k2 = j := by simpa using hk2
    obtain ⟨o2, hoi2, hl2⟩ := h3
    unfold wpOp
    simp only [hoi2]
    have := hl2 (fun a' w' => S w' ∧ wpAnyH P md ops Q S fuel ((listed.setIfInBounds k true).setIfInBounds k2 true) a' w') (fun a w hS h => ⟨hS, ih fuel _ a w (by omega) (by exact ho.2.2.2.2) h⟩)
    split at this
    ·rename_i hw
     simp only [hw, if_true]
     exact .inl this
    ·rename_i hw
     simp only [hw, if_false, Bool.false_eq_true]
     exact this⟩)
   split at this
   ·rename_i hw
    simp only [hw, if_true]
    exact .inl this
   ·rename_i hw
    simp only [hw, if_false, Bool.false_eq_true]
    exact this
  ·obtain ⟨o, hoi, hl⟩ := h.2
   unfold wpOp
   simp only [hoi]
   have := hl (fun a' w' => S w' ∧ wpAnyH P md ops Q S (fuel + 1) (listed.setIfInBounds k true) a' w') (fun a w hS h3 => ⟨hS, by
    refine wpAnyH_all ho.2.2.2.1 (by simp) fun k2 hk2 => ?_
    obtain rfl : k2 = i := by simpa using hk2
    obtain ⟨o2, hoi2, hl2⟩ := h3
    unfold wpOp
    simp only [hoi2]
    have := hl2 (fun a' w' => S w' ∧ wpAnyH P md ops Q S fuel ((listed.setIfInBounds k true).setIfInBounds k2 true) a' w') (fun a w hS h => ⟨hS, ih fuel _ a w (by omega) (by rw [Array.setIfInBounds_comm _ _ hne.symm]; exact ho.2.2.2.2) h⟩)
    split at this
    ·rename_i hw
     simp only [hw, if_true]
     exact .inl this
    ·rename_i hw
     simp only [hw, if_false, Bool.false_eq_true]
     exact this⟩)
   split at this
   ·rename_i hw
    simp only [hw, if_true]
    exact .inl this
   ·rename_i hw
    simp only [hw, if_false, Bool.false_eq_true]
    exact this
theorem wp_region_plb (S : World → Prop) (l : PlanB) {id : Nat} {a : Act} {w : World} (hm : P.follows .mixedOrders = true) (hs : Region.noSelect ops = true)
  (ho : (Nat.ble (plbN l) ops.size && plbB .any ops l (Array.replicate ops.size false)) = true)
  (hQ : ∀ d v c a w, Q (.panic c) (Act.put a d v) w → Q (.panic c) a w)
  (h : wpPlb P ops Q S l a w.drew) : (Code.region id ops true).wp P Q a w := by
 simp only [Bool.and_eq_true, Nat.ble_eq] at ho
 exact wp_region_held hm (wpAnyH_of_plb hs hQ l ops.size _ a _ ho.1 ho.2 h)
end
end Go.Proofs.YtjpjalmilfgckaaGreatDoor
