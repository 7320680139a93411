/- Part 3 of the walks, merged: each text under its own heading. Conditions: none of its own; each lemma states what it asks. -/
import Derived.Test.YtjpjalmilfgckaaGreatDoorBk2
import Derived.Deep.CutBlock
import Derived.Deep.DeepCutAuto
import Derived.Laws.CopyOwn
set_option linter.unusedVariables false
set_option linter.unusedSimpArgs false
namespace Go.Proofs.YtjpjalmilfgckaaGreatDoor
inductive Plan where
 | done
 | pure (i : Nat) (p : Plan)
 | eff (i : Nat) (p : Plan)
 | fork (i j : Nat) (p q : Plan)
section
variable {P : Program} {md : Region.Mode} {ops : Array Oper} {Q : Exit → Act → World → Prop} {S : World → Prop}
def wpPlan (P : Program) (ops : Array Oper) (Q : Exit → Act → World → Prop) (S : World → Prop) : Plan → Act → World → Prop
 | .done, a, w => Q .normal a w
 | .eff i p, a, w => ∃ o, ops[i]? = some o ∧ ∀ K : Act → World → Prop, (∀ a w, S w → wpPlan P ops Q S p a w → K a w) → if Region.wanted o (yielded ops a.tmps) then o.wp P a w K Q else K (a.put o.dst undef) w
 | .pure i p, a, w => ∃ o v, ops[i]? = some o ∧ YieldsIf P ops S o v a ∧ S w ∧ wpPlan P ops Q S p (a.put o.dst v) w
 | .fork i j p q, a, w => (∃ o, ops[i]? = some o ∧ ∀ K : Act → World → Prop, (∀ a w, S w → wpPlan P ops Q S p a w → K a w) → if Region.wanted o (yielded ops a.tmps) then o.wp P a w K Q else K (a.put o.dst undef) w) ∧
   (∃ o, ops[j]? = some o ∧ ∀ K : Act → World → Prop, (∀ a w, S w → wpPlan P ops Q S q a w → K a w) → if Region.wanted o (yielded ops a.tmps) then o.wp P a w K Q else K (a.put o.dst undef) w)
theorem plan_pure {i : Nat} {o : Oper} {d : Tmp} {p : Plan} {a : Act} {w : World} {v : Value} (ho : ops[i]? = some o) (hd : o.dst = some d) (hw : Region.wanted o (yielded ops a.tmps) = true) (hS : S w)
  (hy : ∀ w, S w → (execOp a.eval o).run P w = .ok (.value v) w) (h : wpPlan P ops Q S p { tmps := a.tmps.setIfInBounds d v, defers := a.defers } w) : wpPlan P ops Q S (.pure i p) a w :=
 ⟨o, v, ho, .inl ⟨hw, hy⟩, hS, by rw [hd]; exact h⟩
theorem plan_off {i : Nat} {o : Oper} {d : Tmp} {p : Plan} {a : Act} {w : World} (ho : ops[i]? = some o) (hd : o.dst = some d) (hw : Region.wanted o (yielded ops a.tmps) = false) (hS : S w)
  (h : wpPlan P ops Q S p { tmps := a.tmps.setIfInBounds d undef, defers := a.defers } w) : wpPlan P ops Q S (.pure i p) a w :=
 ⟨o, undef, ho, .inr ⟨hw, rfl⟩, hS, by rw [hd]; exact h⟩
theorem plan_eff {i : Nat} {o : Oper} {p : Plan} {a : Act} {w : World} (ho : ops[i]? = some o)
  (h : ∀ K : Act → World → Prop, (∀ a w, S w → wpPlan P ops Q S p a w → K a w) → if Region.wanted o (yielded ops a.tmps) then o.wp P a w K Q else K (a.put o.dst undef) w) : wpPlan P ops Q S (.eff i p) a w :=
 ⟨o, ho, h⟩
theorem plan_eff1 {i : Nat} {o : Oper} {p : Plan} {a : Act} {w : World} (ho : ops[i]? = some o) (hw : Region.wanted o (yielded ops a.tmps) = true)
  (h : ∀ K : Act → World → Prop, (∀ a w, S w → wpPlan P ops Q S p a w → K a w) → o.wp P a w K Q) : wpPlan P ops Q S (.eff i p) a w :=
 ⟨o, ho, fun K hK => by rw [if_pos hw]; exact h K hK⟩
theorem plan_fork {i j : Nat} {p q : Plan} {a : Act} {w : World} (h1 : wpPlan P ops Q S (.eff i p) a w) (h2 : wpPlan P ops Q S (.eff j q) a w) : wpPlan P ops Q S (.fork i j p q) a w := ⟨h1, h2⟩
theorem plan_end {a : Act} {w : World} (h : Q .normal a w) : wpPlan P ops Q S .done a w := h
def planB (md : Region.Mode) (ops : Array Oper) : Plan → Array Bool → Bool
 | .done, listed => (Region.ready md ops listed).isEmpty
 | .eff i p, listed => Region.ready md ops listed == [i] && planB md ops p (listed.setIfInBounds i true)
 | .pure i p, listed => Region.free md ops listed i && (Region.ready md ops listed).contains i && planB md ops p (listed.setIfInBounds i true)
 | .fork i j p q, listed => Region.ready md ops listed == [i, j] && planB md ops p (listed.setIfInBounds i true) && planB md ops q (listed.setIfInBounds j true)
def planN : Plan → Nat
 | .done => 0
 | .eff _ p => planN p + 1
 | .pure _ p => planN p + 1
 | .fork _ _ p q => max (planN p) (planN q) + 1
theorem wpAnyH_of_plan (hs : Region.noSelect ops = true) (hQ : ∀ d v c a w, Q (.panic c) (Act.put a d v) w → Q (.panic c) a w) :
  ∀ (l : Plan) (fuel : Nat) (listed : Array Bool) (a : Act) (w : World), planN l ≤ fuel → planB md ops l listed = true → wpPlan P ops Q S l a w → wpAnyH P md ops Q S fuel listed a w := by
 intro l
 induction l with
 | done =>
  intro fuel listed a w _ ho h
  have hr : Region.ready md ops listed = [] := by simpa [planB] using ho
  exact wpAnyH_done hr h fuel
 | eff i p ih =>
  intro fuel listed a w hf ho h
  simp only [planN] at hf
  obtain ⟨fuel, rfl⟩ : ∃ f, fuel = f + 1 := ⟨fuel - 1, by omega⟩
  simp only [planB, Bool.and_eq_true, beq_iff_eq] at ho
  obtain ⟨o, hoi, hl⟩ := h
  refine wpAnyH_all ho.1 (by simp) fun j hj => ?_
  obtain rfl : j = i := by simpa using hj
  unfold wpOp
  simp only [hoi]
  have := hl (fun a' w' => S w' ∧ wpAnyH P md ops Q S fuel (listed.setIfInBounds j true) a' w') (fun a w hS h => ⟨hS, ih fuel _ a w (by omega) ho.2 h⟩)
  split at this
  ·rename_i hw
   simp only [hw, if_true]
   exact .inl this
  ·rename_i hw
   simp only [hw, if_false, Bool.false_eq_true]
   exact this
 | pure i p ih =>
  intro fuel listed a w hf ho h
  simp only [planN] at hf
  obtain ⟨fuel, rfl⟩ : ∃ f, fuel = f + 1 := ⟨fuel - 1, by omega⟩
  simp only [planB, Bool.and_eq_true] at ho
  obtain ⟨o, v, hoi, hy, hS, hl⟩ := h
  exact wpAnyH_take hoi hs ho.1.1 ho.1.2 (fun c a w => hQ _ _ c a w) hy hS (ih fuel _ _ w (by omega) ho.2 hl)
 | fork i j p q ih1 ih2 =>
  intro fuel listed a w hf ho h
  simp only [planN] at hf
  obtain ⟨fuel, rfl⟩ : ∃ f, fuel = f + 1 := ⟨fuel - 1, by omega⟩
  simp only [planB, Bool.and_eq_true, beq_iff_eq] at ho
  refine wpAnyH_all ho.1.1 (by simp) fun k hk => ?_
  have hk' : k = i ∨ k = j := by simpa using hk
  rcases hk' with rfl | rfl
  ·obtain ⟨o, hoi, hl⟩ := h.1
   unfold wpOp
   simp only [hoi]
   have := hl (fun a' w' => S w' ∧ wpAnyH P md ops Q S fuel (listed.setIfInBounds k true) a' w') (fun a w hS h => ⟨hS, ih1 fuel _ a w (by omega) ho.1.2 h⟩)
   split at this
   ·rename_i hw
    simp only [hw, if_true]
    exact .inl this
   ·rename_i hw
    simp only [hw, if_false, Bool.false_eq_true]
    exact this
  ·obtain ⟨o, hoi, hl⟩ := h.2
   unfold wpOp
   simp only [hoi]
   have := hl (fun a' w' => S w' ∧ wpAnyH P md ops Q S fuel (listed.setIfInBounds k true) a' w') (fun a w hS h => ⟨hS, ih2 fuel _ a w (by omega) ho.2 h⟩)
   split at this
   ·rename_i hw
    simp only [hw, if_true]
    exact .inl this
   ·rename_i hw
    simp only [hw, if_false, Bool.false_eq_true]
    exact this
theorem wp_region_plan (S : World → Prop) (l : Plan) {id : Nat} {a : Act} {w : World} (hm : P.follows .mixedOrders = true) (hs : Region.noSelect ops = true)
  (ho : (Nat.ble (planN l) ops.size && planB .any ops l (Array.replicate ops.size false)) = true)
  (hQ : ∀ d v c a w, Q (.panic c) (Act.put a d v) w → Q (.panic c) a w)
  (h : wpPlan P ops Q S l a w.drew) : (Code.region id ops true).wp P Q a w := by
 simp only [Bool.and_eq_true, Nat.ble_eq] at ho
 exact wp_region_held hm (wpAnyH_of_plan hs hQ l ops.size _ a _ ho.1 ho.2 h)
end
end Go.Proofs.YtjpjalmilfgckaaGreatDoor
namespace Go.Proofs.YtjpjalmilfgckaaGreatDoor
open Go.RowKit
def mayK (k : Int) : Bool := decide (1 ≤ k ∧ k ≤ 5)
set_option maxRecDepth 100000 in
theorem may_any (k : Int) (nl : Bool) (w : World) : Calls Tryz.prog 103 #[.agg #[.int .i64 k, .bool nl]] w fun e w' => e = .returned (.bool (mayK k)) ∧ Below w.heap.size w w' := by
 unfold mayK
 by_cases h1 : 0 < k
 ·have d1 : decide (0 < k) = true := decide_eq_true h1
  by_cases h2 : k < 6
  ·have d2 : decide (k < 6) = true := decide_eq_true h2
   rw [decide_eq_true (by omega : 1 ≤ k ∧ k ≤ 5)]
   go_enter Tryz.func103, Tryz.ntmps103
   go_wp2
   go_ret
   exact ⟨rfl, (Below.refl _ _).alloc (Nat.le_refl _) _⟩
  ·have d2 : decide (k < 6) = false := decide_eq_false h2
   rw [decide_eq_false (by omega : ¬ (1 ≤ k ∧ k ≤ 5))]
   go_enter Tryz.func103, Tryz.ntmps103
   go_wp2
   go_ret
   exact ⟨rfl, (Below.refl _ _).alloc (Nat.le_refl _) _⟩
 ·have d1 : decide (0 < k) = false := decide_eq_false h1
  rw [decide_eq_false (by omega : ¬ (1 ≤ k ∧ k ≤ 5))]
  go_enter Tryz.func103, Tryz.ntmps103
  go_wp2
  go_ret
  exact ⟨rfl, (Below.refl _ _).alloc (Nat.le_refl _) _⟩
def PlainF (w : World) (F : Value) (a b : Int) : Prop := ∃ p q : Nat, F = .func (.func 200) #[] #[.pointer (some ⟨p, 0, none⟩), .pointer (some ⟨q, 0, none⟩)] ∧ p < w.heap.size ∧ q < w.heap.size ∧ w.cell? ⟨p, 0, none⟩ = some (.int .i64 a) ∧ w.cell? ⟨q, 0, none⟩ = some (.int .i64 b)
theorem PlainF.on {w w' : World} {F : Value} {a b : Int} (h : PlainF w F a b) (hb : Below w.heap.size w w') : PlainF w' F a b := by
 obtain ⟨p, q, h1, h2, h3, h4, h5⟩ := h
 exact ⟨p, q, h1, Nat.lt_of_lt_of_le h2 hb.size, Nat.lt_of_lt_of_le h3 hb.size, (hb.cell (p := ⟨p, 0, none⟩) h2).trans h4, (hb.cell (p := ⟨q, 0, none⟩) h3).trans h5⟩
set_option maxRecDepth 100000 in
theorem of1_any (a b : Int) (w : World) : Calls Tryz.prog 199 #[.int .i64 a, .int .i64 b] w fun e w' => ∃ F, e = .returned F ∧ PlainF w' F a b ∧ Below w.heap.size w w' := by
 go_enter Tryz.func199, Tryz.ntmps199
 go_wp2
 go_ret
 refine ⟨_, rfl, ⟨w.heap.size, w.heap.size + 1, rfl, by simp; omega, by simp, ?_, ?_⟩, ((Below.refl _ _).alloc (Nat.le_refl _) _).alloc (by simp) _⟩
 ·simp
 ·simp
theorem empty_no {s : ByteArray} (h : s ≠ ⟨#[]⟩) : s.toList.isEmpty = false := by
 have h2 : (s.toList == (⟨#[]⟩ : ByteArray).toList) = false := by rw [text_eqb2, decide_eq_false h]
 cases hl : s.toList with
 | nil => rw [hl] at h2; simp at h2
 | cons a l => rfl
set_option maxRecDepth 100000 in
set_option maxHeartbeats 1000000 in
theorem plain_any (p q : Nat) (a b n : Int) (nl : Bool) (s : ByteArray) (w : World) (hp : p < w.heap.size) (hq : q < w.heap.size) (h1 : w.cell? ⟨p, 0, none⟩ = some (.int .i64 a)) (h2 : w.cell? ⟨q, 0, none⟩ = some (.int .i64 b)) :
  Calls Tryz.prog 200 #[.agg #[.bool nl, .int .i64 n, .string s], .pointer (some ⟨p, 0, none⟩), .pointer (some ⟨q, 0, none⟩)] w fun e w' => e = .returned (.bool (decide (s = ⟨#[]⟩ ∧ a ≤ n ∧ n ≤ b))) ∧ Below w.heap.size w w' := by
 by_cases hs : s = ⟨#[]⟩
 ·subst hs
  by_cases ha : a ≤ n
  ·have d1 : decide (a ≤ n) = true := decide_eq_true ha
   have hv : decide ((⟨#[]⟩ : ByteArray) = ⟨#[]⟩ ∧ a ≤ n ∧ n ≤ b) = decide (n ≤ b) := by simp [ha]
   rw [hv]
   clear hv
   go_enter Tryz.func200, Tryz.ntmps200
   go_wp2
   go_ret
   exact ⟨rfl, (Below.refl _ _).alloc (Nat.le_refl _) _⟩
  ·have d1 : decide (a ≤ n) = false := decide_eq_false ha
   have hv : decide ((⟨#[]⟩ : ByteArray) = ⟨#[]⟩ ∧ a ≤ n ∧ n ≤ b) = false := by simp [ha]
   rw [hv]
   clear hv
   go_enter Tryz.func200, Tryz.ntmps200
   go_wp2
   go_ret
   exact ⟨rfl, (Below.refl _ _).alloc (Nat.le_refl _) _⟩
 ·have hte := empty_no hs
  have hv : decide (s = ⟨#[]⟩ ∧ a ≤ n ∧ n ≤ b) = false := decide_eq_false (fun h => hs h.1)
  rw [hv]
  clear hv
  go_enter Tryz.func200, Tryz.ntmps200
  go_wp2
  go_ret
  exact ⟨rfl, (Below.refl _ _).alloc (Nat.le_refl _) _⟩
abbrev Cl := Bool × Int × ByteArray
def clV (c : Cl) : Value := .agg #[.bool c.1, .int .i64 c.2.1, .string c.2.2]
def sizeC (n : Int) (s : ByteArray) : Bool := decide (n = 0 ∧ s.size ≤ 1024)
set_option maxRecDepth 100000 in
theorem of2_any (n : Int) (nl : Bool) (s : ByteArray) (w : World) : Calls Tryz.prog 201 #[.agg #[.bool nl, .int .i64 n, .string s]] w fun e w' => e = .returned (.bool (sizeC n s)) ∧ Below w.heap.size w w' := by
 unfold sizeC
 by_cases hn : n = 0
 ·subst hn
  have hv : decide ((0 : Int) = 0 ∧ s.size ≤ 1024) = decide (s.size ≤ 1024) := by simp
  rw [hv]
  clear hv
  by_cases hs : s.size ≤ 1024
  ·have d1 : decide ((s.size : Int) ≤ 1024) = true := by simp; omega
   rw [decide_eq_true hs]
   go_enter Tryz.func201, Tryz.ntmps201
   go_wp2
   go_ret
   exact ⟨rfl, (Below.refl _ _).alloc (Nat.le_refl _) _⟩
  ·have d1 : decide ((s.size : Int) ≤ 1024) = false := by simp; omega
   rw [decide_eq_false hs]
   go_enter Tryz.func201, Tryz.ntmps201
   go_wp2
   go_ret
   exact ⟨rfl, (Below.refl _ _).alloc (Nat.le_refl _) _⟩
 ·have d1 : (n == 0) = false := by simp [hn]
  have hv : decide (n = 0 ∧ s.size ≤ 1024) = false := by simp [hn]
  rw [hv]
  clear hv
  go_enter Tryz.func201, Tryz.ntmps201
  go_wp2
  go_ret
  exact ⟨rfl, (Below.refl _ _).alloc (Nat.le_refl _) _⟩
set_option maxRecDepth 100000 in
theorem of5_any (p : Nat) (n : Int) (nl : Bool) (s : ByteArray) (w : World) (hp : p < w.heap.size) (h1 : w.cell? ⟨p, 0, none⟩ = some (.func (.func 201) #[] #[])) (hT : Tabs w) :
  Calls Tryz.prog 211 #[.agg #[.bool nl, .int .i64 n, .string s], .pointer (some ⟨p, 0, none⟩)] w fun e w' => e = .returned (.bool (sizeC n s && Lib.validD s.data.toList)) ∧ Below w.heap.size w w' := by
 have HT := Lib.hid hT
 clear hT
 go_enter Tryz.func211, Tryz.ntmps211
 go_wp2_with fail
 with_reducible refine (of2_any n nl s _).mono ?_
 rintro e w1 ⟨rfl, hb1⟩
 have hb2 := bon (bal (Below.refl _ _) _) hb1
 have Hb2 := Lib.hid hb2
 have c2 := ((Blk.new w 23 #[.bool nl, .int .i64 n, .string s]).on hb1).cell 2
 clear hb1 hb2
 cases hsz : sizeC n s with
 | false =>
  go_wp2
  go_ret
  exact ⟨by rw [hsz, Bool.false_and]; rfl, Hb2.out⟩
 | true =>
  have hss : s.size ≤ 9223372036854775807 := by
   simp only [sizeC, decide_eq_true_eq] at hsz
   omega
  go_wp2_with fail
  with_reducible refine (pvalid_any s _ hss (HT.out.on Hb2.out)).mono ?_
  rintro e w2 ⟨rfl, hb3⟩
  go_wp2
  go_ret
  exact ⟨by rw [hsz, Bool.true_and]; rfl, bon Hb2.out hb3⟩
end Go.Proofs.YtjpjalmilfgckaaGreatDoor
namespace Go.Proofs.YtjpjalmilfgckaaGreatDoor
open Go.RowKit
def IsF (k : Int) (w : World) (F : Value) : Prop :=
 (k = 1 ∧ PlainF w F 0 1) ∨ (k = 2 ∧ PlainF w F (-2147483648) 2147483647) ∨ (k = 3 ∧ PlainF w F (-9223372036854775808) 9223372036854775807) ∨
  (k = 4 ∧ ∃ p : Nat, F = .func (.func 211) #[] #[.pointer (some ⟨p, 0, none⟩)] ∧ p < w.heap.size ∧ w.cell? ⟨p, 0, none⟩ = some (.func (.func 201) #[] #[])) ∨
  (k = 5 ∧ F = .func (.func 201) #[] #[])
theorem IsF.on {k : Int} {w w' : World} {F : Value} (h : IsF k w F) (hb : Below w.heap.size w w') : IsF k w' F := by
 rcases h with ⟨rfl, h⟩ | ⟨rfl, h⟩ | ⟨rfl, h⟩ | ⟨rfl, p, h1, h2, h3⟩ | ⟨rfl, h⟩
 ·exact .inl ⟨rfl, h.on hb⟩
 ·exact .inr (.inl ⟨rfl, h.on hb⟩)
 ·exact .inr (.inr (.inl ⟨rfl, h.on hb⟩))
 ·exact .inr (.inr (.inr (.inl ⟨rfl, p, h1, Nat.lt_of_lt_of_le h2 hb.size, (hb.cell (p := ⟨p, 0, none⟩) h2).trans h3⟩)))
 ·exact .inr (.inr (.inr (.inr ⟨rfl, h⟩)))
abbrev kz : Array Value := #[.nilFunc, .nilFunc, .nilFunc, .nilFunc, .nilFunc, .nilFunc, .nilFunc, .nilFunc, .nilFunc, .nilFunc, .nilFunc, .nilFunc, .nilFunc, .nilFunc, .nilFunc, .nilFunc, .nilFunc, .nilFunc, .nilFunc, .nilFunc, .nilFunc, .nilFunc, .nilFunc, .nilFunc, .nilFunc, .nilFunc, .nilFunc, .nilFunc, .nilFunc, .nilFunc]
abbrev fnV (f : Nat) : Value := .func (.func f) #[] #[]
theorem Blk.row {w : World} {g : Nat} {t : TypeId} {old cs : Array Value} (h : Blk w g t old) : Blk (w.setRow g cs) g t cs := setRow_heap w g old cs t (0, 0) h
theorem Blk.new' (w : World) (t : TypeId) (cs : Array Value) (g : Nat) (hg : g = w.heap.size) : Blk (w.alloc (.cells cs t)) g t cs := by
 subst hg
 exact Blk.new w t cs
theorem store_new {P : Program} (w : World) (t : TypeId) (old v : Value) (g : Nat) (hv : v.oneCell' = true) (hg : g = w.heap.size) : (store ⟨g, 0, none⟩ v).run P (w.alloc (.cells #[old] t)) = .ok () ((w.alloc (.cells #[old] t)).setCell ⟨g, 0, none⟩ v) := by
 have h := Blk.new' w t #[old] g hg
 rw [run_store _ _ _ _ _ hv, h.cell 0, h.frozen 0]
 rfl
theorem PlainF.row {w : World} {F : Value} {a b : Int} {g : Nat} {t : TypeId} {old cs : Array Value} (h : PlainF w F a b) (hT : Blk w g t old) (h0 : old[0]? = some .nilFunc) : PlainF (w.setRow g cs) F a b := by
 obtain ⟨p, q, h1, h2, h3, h4, h5⟩ := h
 have hg := hT.cell 0
 rw [h0] at hg
 have hp : p ≠ g := by
  rintro rfl
  rw [h4] at hg
  cases hg
 have hq : q ≠ g := by
  rintro rfl
  rw [h5] at hg
  cases hg
 exact ⟨p, q, h1, by simpa using h2, by simpa using h3, (cell_setRow_other w g cs ⟨p, 0, none⟩ hp).trans h4, (cell_setRow_other w g cs ⟨q, 0, none⟩ hq).trans h5⟩
theorem cells5 {w : World} {g : Nat} {t : TypeId} {cs : Array Value} {a b c d e : Value} (h : Blk w g t cs) (i j1 j2 j3 j4 : Nat) (hj : j1 = i + 1 ∧ j2 = i + 2 ∧ j3 = i + 3 ∧ j4 = i + 4 := by decide) {r : List Value} (hl : cs.toList.drop i = a :: b :: c :: d :: e :: r) :
  w.cell? ⟨g, i, none⟩ = some a ∧ w.cell? ⟨g, j1, none⟩ = some b ∧ w.cell? ⟨g, j2, none⟩ = some c ∧ w.cell? ⟨g, j3, none⟩ = some d ∧ w.cell? ⟨g, j4, none⟩ = some e := by
 obtain ⟨rfl, rfl, rfl, rfl⟩ := hj
 have key : ∀ k, cs[i + k]? = (cs.toList.drop i)[k]? := fun k => by rw [List.getElem?_drop, Array.getElem?_toList]
 refine ⟨(h.cell i).trans ?_, (h.cell _).trans ?_, (h.cell _).trans ?_, (h.cell _).trans ?_, (h.cell _).trans ?_⟩
 ·have := key 0
  rw [hl] at this
  exact this
 all_goals (rw [key, hl]; rfl)
theorem five_stores {P : Program} {w : World} {g : Nat} {t : TypeId} {a0 a1 a2 a3 a4 : Value} (C : Blk w g t #[.nilFunc, .nilFunc, .nilFunc, .nilFunc, .nilFunc]) (h0 : a0.oneCell' = true) (h1 : a1.oneCell' = true) (h2 : a2.oneCell' = true) (h3 : a3.oneCell' = true) (h4 : a4.oneCell' = true) :
  ∃ w5, (((store ⟨g, 0, none⟩ a0).run P w).andThen fun _ w' => ((store ⟨g, 1, none⟩ a1).run P w').andThen fun _ w' => ((store ⟨g, 2, none⟩ a2).run P w').andThen fun _ w' => ((store ⟨g, 3, none⟩ a3).run P w').andThen fun _ w' => (store ⟨g, 4, none⟩ a4).run P w') = .ok () w5 ∧ Blk w5 g t #[a0, a1, a2, a3, a4] ∧ Below g w w5 ∧ w5.heap.size = w.heap.size ∧ ∀ b : Nat, b ≠ g → w5.cell? ⟨b, 0, none⟩ = w.cell? ⟨b, 0, none⟩ := by
 have st : ∀ {w1 : World} {cs : Array Value} (i : Nat) (v : Value), Blk w1 g t cs → v.oneCell' = true → i < cs.size → (store ⟨g, i, none⟩ v).run P w1 = .ok () (w1.setCell ⟨g, i, none⟩ v) := by
  intro w1 cs i v hB hv hi
  rw [run_store _ _ _ _ _ hv, hB.cell i, hB.frozen i, Array.getElem?_eq_getElem hi]
  rfl
 have hg := Nat.le_refl g
 have C1 := C.set_ 0 a0
 have C2 := C1.set_ 1 a1
 have C3 := C2.set_ 2 a2
 have C4 := C3.set_ 3 a3
 have C5 := C4.set_ 4 a4
 refine ⟨_, ?_, C5, ?_, by simp, fun b hb => ?_⟩
 ·rw [st 0 a0 C h0 (by decide), Result.andThen_ok, st 1 a1 C1 h1 (by simp), Result.andThen_ok, st 2 a2 C2 h2 (by simp), Result.andThen_ok, st 3 a3 C3 h3 (by simp), Result.andThen_ok, st 4 a4 C4 h4 (by simp)]
 ·exact (((((Below.refl _ _).setCell (p := ⟨g, 0, none⟩) hg _).setCell (p := ⟨g, 1, none⟩) hg _).setCell (p := ⟨g, 2, none⟩) hg _).setCell (p := ⟨g, 3, none⟩) hg _).setCell (p := ⟨g, 4, none⟩) hg _
 ·have ho : ∀ (w1 : World) (i : Nat) (v : Value), (w1.setCell ⟨g, i, none⟩ v).cell? ⟨b, 0, none⟩ = w1.cell? ⟨b, 0, none⟩ := fun w1 i v => World.cell?_setCell_other w1 _ _ v (by intro h; injection h with h1 h2 h3; exact hb h1.symm)
  rw [ho, ho, ho, ho, ho]
theorem PlainF.five {w w5 : World} {F : Value} {a b : Int} {g : Nat} {t : TypeId} {a1 a2 a3 a4 : Value} (h : PlainF w F a b) (C : Blk w g t #[.nilFunc, a1, a2, a3, a4]) (hs : w5.heap.size = w.heap.size) (hc : ∀ b : Nat, b ≠ g → w5.cell? ⟨b, 0, none⟩ = w.cell? ⟨b, 0, none⟩) : PlainF w5 F a b := by
 obtain ⟨p, q, h1, h2, h3, h4, h5⟩ := h
 have hg : w.cell? ⟨g, 0, none⟩ = some .nilFunc := C.cell 0
 have hp : p ≠ g := by
  rintro rfl
  rw [h4] at hg
  cases hg
 have hq : q ≠ g := by
  rintro rfl
  rw [h5] at hg
  cases hg
 exact ⟨p, q, h1, by omega, by omega, (hc p hp).trans h4, (hc q hq).trans h5⟩
theorem leaf_eq {n : Nat} {W4 W : World} (hS : Below n W4 W) : W = W := rfl
theorem leaf_ends {n : Nat} {W4 w : World} {g : Nat} {t : TypeId} {old cs : Array Value} {F1 F2 F3 : Value} {a1 b1 a2 b2 a3 b3 : Int} (hS : Below n W4 (w.setRow g cs)) (h1 : PlainF w F1 a1 b1) (h2 : PlainF w F2 a2 b2) (h3 : PlainF w F3 a3 b3) (hT : Blk w g t old) (h0 : old[0]? = some .nilFunc) : PlainF (w.setRow g cs) F1 a1 b1 ∧ PlainF (w.setRow g cs) F2 a2 b2 ∧ PlainF (w.setRow g cs) F3 a3 b3 ∧ Blk (w.setRow g cs) g t cs :=
 ⟨h1.row hT h0, h2.row hT h0, h3.row hT h0, hT.row⟩
set_option maxRecDepth 100000 in
set_option maxHeartbeats 4000000 in
theorem of_any (k : Int) (nl : Bool) (w : World) (h1 : 1 ≤ k) (h5 : k ≤ 5) : Calls Tryz.prog 161 #[.agg #[.int .i64 k, .bool nl]] w fun e w' => ∃ F a b c d, e = .returned (.agg #[F, a, b, c, d]) ∧ IsF k w' F ∧ Below w.heap.size w w' := by
 have hst := store_new (P := Tryz.prog) ((w.alloc (.cells #[.int .i64 k, .bool nl] 43)).alloc (.cells #[.nilFunc, .nilFunc, .nilFunc, .nilFunc, .nilFunc] 205)) 147 .nilFunc (fnV 201) (w.heap.size + 1 + 1) rfl (by simp)
 obtain ⟨W4, hW4⟩ : ∃ W4, W4 = ((w.alloc (.cells #[.int .i64 k, .bool nl] 43)).alloc (.cells #[.nilFunc, .nilFunc, .nilFunc, .nilFunc, .nilFunc] 205)).alloc (.cells #[fnV 201] 147) := ⟨_, rfl⟩
 have HW4 := Lib.hid hW4
 have B4 := Lib.hid (show Blk W4 (w.heap.size + 1 + 1) 147 #[fnV 201] by rw [hW4]; exact Blk.new' _ _ _ _ (by simp))
 have B2 := Lib.hid (show Blk W4 (w.heap.size + 1) 205 #[.nilFunc, .nilFunc, .nilFunc, .nilFunc, .nilFunc] by rw [hW4]; exact (Blk.new' _ _ _ _ (by simp)).alloc _)
 have B1 := Lib.hid (show Blk W4 w.heap.size 43 #[.int .i64 k, .bool nl] by rw [hW4]; exact ((Blk.new w _ _).alloc _).alloc _)
 have HB := Lib.hid (show Below w.heap.size w W4 by rw [hW4]; exact (((Below.refl _ _).alloc (Nat.le_refl _) _).alloc (by simp) _).alloc (by simp; omega) _)
 have Hsz4 := Lib.hid (show W4.heap.size = w.heap.size + 3 by rw [hW4]; simp)
 clear hW4
 go_enter Tryz.func161, Tryz.ntmps161
 go_wp2
 rw [← HW4.out]
 clear HW4 hst
 have H4 := Lib.hid (show ∀ w', Below W4.heap.size W4 w' → w'.cell? ⟨w.heap.size + 1 + 1, 0, none⟩ = some (fnV 201) from fun w' h => (h.cell (p := ⟨w.heap.size + 1 + 1, 0, none⟩) B4.out.lt).trans (B4.out.cell 0))
 have hS : Below W4.heap.size W4 W4.drew := (Below.refl _ _).drew
 refine wp_region_plan (fun w' => Below W4.heap.size W4 w') (.pure 0 (.pure 3 (.pure 6 (.pure 9 (.pure 10 (.pure 11 (.pure 12 (.fork 1 14 (.pure 2 (.fork 4 14 (.pure 5 (.fork 7 14 (.pure 8 (.pure 13 (.eff 14 (.eff 15 .done)))) (.eff 7 (.pure 8 (.pure 13 (.eff 15 .done)))))) (.eff 4 (.pure 5 (.eff 7 (.pure 8 (.pure 13 (.eff 15 .done)))))))) (.eff 1 (.pure 2 (.eff 4 (.pure 5 (.eff 7 (.pure 8 (.pure 13 (.eff 15 .done)))))))))))))))) (by kernel_rfl) (by kernel_rfl) (by kernel_rfl) (fun d _ _ _ _ h => by cases d <;> exact h) ?_
 iterate 5
  refine plan_pure (v := ?_) rfl rfl (by simp [Region.wanted, yielded]) hS ?_ ?_
  rotate_left
  ·intro w hw; go_simp; try with_reducible rfl
  try simp only [Act.put, zpA, zpB, zpC]
 refine plan_pure (v := ?_) rfl rfl (by simp [Region.wanted, yielded]) hS ?_ ?_
 rotate_left
 ·intro w hw; have c0 := H4.out w hw; clear hw; go_simp; try with_reducible rfl
 try simp only [Act.put, zpA, zpB, zpC]
 refine plan_pure (v := ?_) rfl rfl (by simp [Region.wanted, yielded]) hS ?_ ?_
 rotate_left
 ·intro w hw; go_simp; try with_reducible rfl
 try simp only [Act.put, zpA, zpB, zpC]
 refine plan_fork ?_ ?_
 ·refine plan_eff1 rfl (by simp [Region.wanted, yielded]) fun K hK => ?_
  go_simp
  with_reducible refine (of1_any 0 1 _).mono ?_
  rintro e w5 ⟨_, rfl, ⟨p1, q1, rfl, lp1, lq1, cp1, cq1⟩, hb1⟩
  have hF1 := Lib.hid (show PlainF w5 _ 0 1 from ⟨p1, q1, rfl, lp1, lq1, cp1, cq1⟩)
  clear lp1 lq1 cp1 cq1
  refine held_go hK (by exact bon hS hb1) fun hS => ?_
  clear hK K
  try simp only [Act.put, zpA, zpB, zpC]
  refine plan_pure (v := ?_) rfl rfl (by simp [Region.wanted, yielded]) hS ?_ ?_
  rotate_left
  ·intro w hw; go_simp; try with_reducible rfl
  try simp only [Act.put, zpA, zpB, zpC]
  refine plan_fork ?_ ?_
  ·refine plan_eff1 rfl (by simp [Region.wanted, yielded]) fun K hK => ?_
   go_simp
   with_reducible refine (of1_any (-2147483648) 2147483647 _).mono ?_
   rintro e w6 ⟨_, rfl, ⟨p2, q2, rfl, lp2, lq2, cp2, cq2⟩, hb2⟩
   have hF2 := Lib.hid (show PlainF w6 _ (-2147483648) 2147483647 from ⟨p2, q2, rfl, lp2, lq2, cp2, cq2⟩)
   clear lp2 lq2 cp2 cq2
   refine held_go hK (by exact bon hS hb2) fun hS => ?_
   clear hK K
   try simp only [Act.put, zpA, zpB, zpC]
   refine plan_pure (v := ?_) rfl rfl (by simp [Region.wanted, yielded]) hS ?_ ?_
   rotate_left
   ·intro w hw; go_simp; try with_reducible rfl
   try simp only [Act.put, zpA, zpB, zpC]
   refine plan_fork ?_ ?_
   ·refine plan_eff1 rfl (by simp [Region.wanted, yielded]) fun K hK => ?_
    go_simp
    with_reducible refine (of1_any (-9223372036854775808) 9223372036854775807 _).mono ?_
    rintro e w7 ⟨_, rfl, ⟨p3, q3, rfl, lp3, lq3, cp3, cq3⟩, hb3⟩
    have hF3 := Lib.hid (show PlainF w7 _ (-9223372036854775808) 9223372036854775807 from ⟨p3, q3, rfl, lp3, lq3, cp3, cq3⟩)
    clear lp3 lq3 cp3 cq3
    refine held_go hK (by exact bon hS hb3) fun hS => ?_
    clear hK K
    try simp only [Act.put, zpA, zpB, zpC]
    iterate 2
     refine plan_pure (v := ?_) rfl rfl (by simp [Region.wanted, yielded]) hS ?_ ?_
     rotate_left
     ·intro w hw; go_simp; try with_reducible rfl
     try simp only [Act.put, zpA, zpB, zpC]
    have hT := Lib.hid (Blk.new' w7 247 kz _ rfl)
    have hTg : W4.heap.size ≤ w7.heap.size := hS.size
    refine plan_eff1 rfl (by simp [Region.wanted, yielded]) fun K hK => ?_
    go_simp
    refine held_go hK (by exact bal hS _) fun hS => ?_
    clear hK K
    try simp only [Act.put, zpA, zpB, zpC]
    replace hF1 := Lib.hid (((hF1.out.on hb2).on hb3).on (bal (Below.refl _ _) (.cells kz 247)))
    replace hF2 := Lib.hid ((hF2.out.on hb3).on (bal (Below.refl _ _) (.cells kz 247)))
    replace hF3 := Lib.hid (hF3.out.on (bal (Below.refl _ _) (.cells kz 247)))
    refine plan_eff1 rfl (by simp [Region.wanted, yielded]) fun K hK => ?_
    refine wp_store_row 247 (.tmp 5) (.tmp 19) rfl _ _ rfl rfl _ _ hT.out (by kernel_rfl) rfl (by simp [Value.oneCell']) ?_
    refine held_go hK (by exact below_setRow hS hTg _) fun hS => ?_
    clear hK K
    try simp only [Act.put, zpA, zpB, zpC]
    refine plan_end ?_
    have hone : ∀ f a b, (Value.func f a b).oneCell' = true := fun _ _ _ => rfl
    obtain ⟨P1, P2, P3, T8⟩ := leaf_ends hS hF1.out hF2.out hF3.out hT.out rfl
    have Q1 := Lib.hid P1
    have Q2 := Lib.hid P2
    have Q3 := Lib.hid P3
    have hS2 := Lib.hid hS
    clear P1 P2 P3 hS
    have C1 := (B1.out.on hS2.out).cell 0
    have C2 := Lib.hid (B2.out.on hS2.out)
    obtain ⟨WL, hWL⟩ : ∃ WL, WL = _ := ⟨_, (leaf_eq hS2.out)⟩
    rw [← hWL] at hS2 Q1 Q2 Q3 T8 C1 C2 ⊢
    clear hWL
    rcases (show k = 1 ∨ k = 2 ∨ k = 3 ∨ k = 4 ∨ k = 5 by omega) with rfl | rfl | rfl | rfl | rfl
    ·obtain ⟨c0, c1, c2, c3, c4⟩ := cells5 T8 5 6 7 8 9 (by decide) rfl
     clear T8
     go_wp2
     obtain ⟨w9, he, hD, hbD, hsD, hcD⟩ := five_stores (P := Tryz.prog) C2.out (hone _ _ _) (hone _ _ _) (hone _ _ _) (hone _ _ _) (hone _ _ _)
     rw [he]
     go_wp2
     have hb8 := bon HB.out hS2.out
     refine bodyPost_ret (results_cell_row rfl _ _ _ _ _ _ _ rfl hD rfl rfl (by kernel_rfl)) rfl ⟨_, _, _, _, _, rfl, ?_, ?_⟩
     ·exact .inl ⟨rfl, Q1.out.five C2.out hsD hcD⟩
     ·exact hb8.trans (hbD.mono (Nat.le_succ _))
    ·obtain ⟨c0, c1, c2, c3, c4⟩ := cells5 T8 10 11 12 13 14 (by decide) rfl
     clear T8
     go_wp2
     obtain ⟨w9, he, hD, hbD, hsD, hcD⟩ := five_stores (P := Tryz.prog) C2.out (hone _ _ _) (hone _ _ _) (hone _ _ _) (hone _ _ _) (hone _ _ _)
     rw [he]
     go_wp2
     have hb8 := bon HB.out hS2.out
     refine bodyPost_ret (results_cell_row rfl _ _ _ _ _ _ _ rfl hD rfl rfl (by kernel_rfl)) rfl ⟨_, _, _, _, _, rfl, ?_, ?_⟩
     ·exact .inr (.inl ⟨rfl, Q2.out.five C2.out hsD hcD⟩)
     ·exact hb8.trans (hbD.mono (Nat.le_succ _))
    ·obtain ⟨c0, c1, c2, c3, c4⟩ := cells5 T8 15 16 17 18 19 (by decide) rfl
     clear T8
     go_wp2
     obtain ⟨w9, he, hD, hbD, hsD, hcD⟩ := five_stores (P := Tryz.prog) C2.out (hone _ _ _) (hone _ _ _) (hone _ _ _) (hone _ _ _) (hone _ _ _)
     rw [he]
     go_wp2
     have hb8 := bon HB.out hS2.out
     refine bodyPost_ret (results_cell_row rfl _ _ _ _ _ _ _ rfl hD rfl rfl (by kernel_rfl)) rfl ⟨_, _, _, _, _, rfl, ?_, ?_⟩
     ·exact .inr (.inr (.inl ⟨rfl, Q3.out.five C2.out hsD hcD⟩))
     ·exact hb8.trans (hbD.mono (Nat.le_succ _))
    ·obtain ⟨c0, c1, c2, c3, c4⟩ := cells5 T8 20 21 22 23 24 (by decide) rfl
     clear T8
     go_wp2
     obtain ⟨w9, he, hD, hbD, hsD, hcD⟩ := five_stores (P := Tryz.prog) C2.out (hone _ _ _) (hone _ _ _) (hone _ _ _) (hone _ _ _) (hone _ _ _)
     rw [he]
     go_wp2
     have hb8 := bon HB.out hS2.out
     refine bodyPost_ret (results_cell_row rfl _ _ _ _ _ _ _ rfl hD rfl rfl (by kernel_rfl)) rfl ⟨_, _, _, _, _, rfl, ?_, ?_⟩
     ·exact .inr (.inr (.inr (.inl ⟨rfl, _, rfl, by have := hS2.out.size; have := Hsz4.out; omega, (hcD _ (by omega)).trans (H4.out _ hS2.out)⟩)))
     ·exact hb8.trans (hbD.mono (Nat.le_succ _))
    ·obtain ⟨c0, c1, c2, c3, c4⟩ := cells5 T8 25 26 27 28 29 (by decide) rfl
     clear T8
     go_wp2
     obtain ⟨w9, he, hD, hbD, hsD, hcD⟩ := five_stores (P := Tryz.prog) C2.out (hone _ _ _) (hone _ _ _) (hone _ _ _) (hone _ _ _) (hone _ _ _)
     rw [he]
     go_wp2
     have hb8 := bon HB.out hS2.out
     refine bodyPost_ret (results_cell_row rfl _ _ _ _ _ _ _ rfl hD rfl rfl (by kernel_rfl)) rfl ⟨_, _, _, _, _, rfl, ?_, ?_⟩
     ·exact .inr (.inr (.inr (.inr ⟨rfl, rfl⟩)))
     ·exact hb8.trans (hbD.mono (Nat.le_succ _))
   ·have hT := Lib.hid (Blk.new' w6 247 kz _ rfl)
    have hTg : W4.heap.size ≤ w6.heap.size := hS.size
    refine plan_eff1 rfl (by simp [Region.wanted, yielded]) fun K hK => ?_
    go_simp
    refine held_go hK (by exact bal hS _) fun hS => ?_
    clear hK K
    try simp only [Act.put, zpA, zpB, zpC]
    refine plan_eff1 rfl (by simp [Region.wanted, yielded]) fun K hK => ?_
    go_simp
    with_reducible refine (of1_any (-9223372036854775808) 9223372036854775807 _).mono ?_
    rintro e w7 ⟨_, rfl, ⟨p3, q3, rfl, lp3, lq3, cp3, cq3⟩, hb3⟩
    have hF3 := Lib.hid (show PlainF w7 _ (-9223372036854775808) 9223372036854775807 from ⟨p3, q3, rfl, lp3, lq3, cp3, cq3⟩)
    clear lp3 lq3 cp3 cq3
    refine held_go hK (by exact bon hS hb3) fun hS => ?_
    clear hK K
    try simp only [Act.put, zpA, zpB, zpC]
    iterate 2
     refine plan_pure (v := ?_) rfl rfl (by simp [Region.wanted, yielded]) hS ?_ ?_
     rotate_left
     ·intro w hw; go_simp; try with_reducible rfl
     try simp only [Act.put, zpA, zpB, zpC]
    replace hT := Lib.hid (hT.out.on hb3)
    replace hF1 := Lib.hid (((hF1.out.on hb2).on (bal (Below.refl _ _) (.cells kz 247))).on hb3)
    replace hF2 := Lib.hid ((hF2.out.on (bal (Below.refl _ _) (.cells kz 247))).on hb3)
    refine plan_eff1 rfl (by simp [Region.wanted, yielded]) fun K hK => ?_
    refine wp_store_row 247 (.tmp 5) (.tmp 19) rfl _ _ rfl rfl _ _ hT.out (by kernel_rfl) rfl (by simp [Value.oneCell']) ?_
    refine held_go hK (by exact below_setRow hS hTg _) fun hS => ?_
    clear hK K
    try simp only [Act.put, zpA, zpB, zpC]
    refine plan_end ?_
    have hone : ∀ f a b, (Value.func f a b).oneCell' = true := fun _ _ _ => rfl
    obtain ⟨P1, P2, P3, T8⟩ := leaf_ends hS hF1.out hF2.out hF3.out hT.out rfl
    have Q1 := Lib.hid P1
    have Q2 := Lib.hid P2
    have Q3 := Lib.hid P3
    have hS2 := Lib.hid hS
    clear P1 P2 P3 hS
    have C1 := (B1.out.on hS2.out).cell 0
    have C2 := Lib.hid (B2.out.on hS2.out)
    obtain ⟨WL, hWL⟩ : ∃ WL, WL = _ := ⟨_, (leaf_eq hS2.out)⟩
    rw [← hWL] at hS2 Q1 Q2 Q3 T8 C1 C2 ⊢
    clear hWL
    rcases (show k = 1 ∨ k = 2 ∨ k = 3 ∨ k = 4 ∨ k = 5 by omega) with rfl | rfl | rfl | rfl | rfl
    ·obtain ⟨c0, c1, c2, c3, c4⟩ := cells5 T8 5 6 7 8 9 (by decide) rfl
     clear T8
     go_wp2
     obtain ⟨w9, he, hD, hbD, hsD, hcD⟩ := five_stores (P := Tryz.prog) C2.out (hone _ _ _) (hone _ _ _) (hone _ _ _) (hone _ _ _) (hone _ _ _)
     rw [he]
     go_wp2
     have hb8 := bon HB.out hS2.out
     refine bodyPost_ret (results_cell_row rfl _ _ _ _ _ _ _ rfl hD rfl rfl (by kernel_rfl)) rfl ⟨_, _, _, _, _, rfl, ?_, ?_⟩
     ·exact .inl ⟨rfl, Q1.out.five C2.out hsD hcD⟩
     ·exact hb8.trans (hbD.mono (Nat.le_succ _))
    ·obtain ⟨c0, c1, c2, c3, c4⟩ := cells5 T8 10 11 12 13 14 (by decide) rfl
     clear T8
     go_wp2
     obtain ⟨w9, he, hD, hbD, hsD, hcD⟩ := five_stores (P := Tryz.prog) C2.out (hone _ _ _) (hone _ _ _) (hone _ _ _) (hone _ _ _) (hone _ _ _)
     rw [he]
     go_wp2
     have hb8 := bon HB.out hS2.out
     refine bodyPost_ret (results_cell_row rfl _ _ _ _ _ _ _ rfl hD rfl rfl (by kernel_rfl)) rfl ⟨_, _, _, _, _, rfl, ?_, ?_⟩
     ·exact .inr (.inl ⟨rfl, Q2.out.five C2.out hsD hcD⟩)
     ·exact hb8.trans (hbD.mono (Nat.le_succ _))
    ·obtain ⟨c0, c1, c2, c3, c4⟩ := cells5 T8 15 16 17 18 19 (by decide) rfl
     clear T8
     go_wp2
     obtain ⟨w9, he, hD, hbD, hsD, hcD⟩ := five_stores (P := Tryz.prog) C2.out (hone _ _ _) (hone _ _ _) (hone _ _ _) (hone _ _ _) (hone _ _ _)
     rw [he]
     go_wp2
     have hb8 := bon HB.out hS2.out
     refine bodyPost_ret (results_cell_row rfl _ _ _ _ _ _ _ rfl hD rfl rfl (by kernel_rfl)) rfl ⟨_, _, _, _, _, rfl, ?_, ?_⟩
     ·exact .inr (.inr (.inl ⟨rfl, Q3.out.five C2.out hsD hcD⟩))
     ·exact hb8.trans (hbD.mono (Nat.le_succ _))
    ·obtain ⟨c0, c1, c2, c3, c4⟩ := cells5 T8 20 21 22 23 24 (by decide) rfl
     clear T8
     go_wp2
     obtain ⟨w9, he, hD, hbD, hsD, hcD⟩ := five_stores (P := Tryz.prog) C2.out (hone _ _ _) (hone _ _ _) (hone _ _ _) (hone _ _ _) (hone _ _ _)
     rw [he]
     go_wp2
     have hb8 := bon HB.out hS2.out
     refine bodyPost_ret (results_cell_row rfl _ _ _ _ _ _ _ rfl hD rfl rfl (by kernel_rfl)) rfl ⟨_, _, _, _, _, rfl, ?_, ?_⟩
     ·exact .inr (.inr (.inr (.inl ⟨rfl, _, rfl, by have := hS2.out.size; have := Hsz4.out; omega, (hcD _ (by omega)).trans (H4.out _ hS2.out)⟩)))
     ·exact hb8.trans (hbD.mono (Nat.le_succ _))
    ·obtain ⟨c0, c1, c2, c3, c4⟩ := cells5 T8 25 26 27 28 29 (by decide) rfl
     clear T8
     go_wp2
     obtain ⟨w9, he, hD, hbD, hsD, hcD⟩ := five_stores (P := Tryz.prog) C2.out (hone _ _ _) (hone _ _ _) (hone _ _ _) (hone _ _ _) (hone _ _ _)
     rw [he]
     go_wp2
     have hb8 := bon HB.out hS2.out
     refine bodyPost_ret (results_cell_row rfl _ _ _ _ _ _ _ rfl hD rfl rfl (by kernel_rfl)) rfl ⟨_, _, _, _, _, rfl, ?_, ?_⟩
     ·exact .inr (.inr (.inr (.inr ⟨rfl, rfl⟩)))
     ·exact hb8.trans (hbD.mono (Nat.le_succ _))
  ·have hT := Lib.hid (Blk.new' w5 247 kz _ rfl)
   have hTg : W4.heap.size ≤ w5.heap.size := hS.size
   refine plan_eff1 rfl (by simp [Region.wanted, yielded]) fun K hK => ?_
   go_simp
   refine held_go hK (by exact bal hS _) fun hS => ?_
   clear hK K
   try simp only [Act.put, zpA, zpB, zpC]
   refine plan_eff1 rfl (by simp [Region.wanted, yielded]) fun K hK => ?_
   go_simp
   with_reducible refine (of1_any (-2147483648) 2147483647 _).mono ?_
   rintro e w6 ⟨_, rfl, ⟨p2, q2, rfl, lp2, lq2, cp2, cq2⟩, hb2⟩
   have hF2 := Lib.hid (show PlainF w6 _ (-2147483648) 2147483647 from ⟨p2, q2, rfl, lp2, lq2, cp2, cq2⟩)
   clear lp2 lq2 cp2 cq2
   refine held_go hK (by exact bon hS hb2) fun hS => ?_
   clear hK K
   try simp only [Act.put, zpA, zpB, zpC]
   refine plan_pure (v := ?_) rfl rfl (by simp [Region.wanted, yielded]) hS ?_ ?_
   rotate_left
   ·intro w hw; go_simp; try with_reducible rfl
   try simp only [Act.put, zpA, zpB, zpC]
   refine plan_eff1 rfl (by simp [Region.wanted, yielded]) fun K hK => ?_
   go_simp
   with_reducible refine (of1_any (-9223372036854775808) 9223372036854775807 _).mono ?_
   rintro e w7 ⟨_, rfl, ⟨p3, q3, rfl, lp3, lq3, cp3, cq3⟩, hb3⟩
   have hF3 := Lib.hid (show PlainF w7 _ (-9223372036854775808) 9223372036854775807 from ⟨p3, q3, rfl, lp3, lq3, cp3, cq3⟩)
   clear lp3 lq3 cp3 cq3
   refine held_go hK (by exact bon hS hb3) fun hS => ?_
   clear hK K
   try simp only [Act.put, zpA, zpB, zpC]
   iterate 2
    refine plan_pure (v := ?_) rfl rfl (by simp [Region.wanted, yielded]) hS ?_ ?_
    rotate_left
    ·intro w hw; go_simp; try with_reducible rfl
    try simp only [Act.put, zpA, zpB, zpC]
   replace hT := Lib.hid ((hT.out.on hb2).on hb3)
   replace hF1 := Lib.hid (((hF1.out.on (bal (Below.refl _ _) (.cells kz 247))).on hb2).on hb3)
   replace hF2 := Lib.hid (hF2.out.on hb3)
   refine plan_eff1 rfl (by simp [Region.wanted, yielded]) fun K hK => ?_
   refine wp_store_row 247 (.tmp 5) (.tmp 19) rfl _ _ rfl rfl _ _ hT.out (by kernel_rfl) rfl (by simp [Value.oneCell']) ?_
   refine held_go hK (by exact below_setRow hS hTg _) fun hS => ?_
   clear hK K
   try simp only [Act.put, zpA, zpB, zpC]
   refine plan_end ?_
   have hone : ∀ f a b, (Value.func f a b).oneCell' = true := fun _ _ _ => rfl
   obtain ⟨P1, P2, P3, T8⟩ := leaf_ends hS hF1.out hF2.out hF3.out hT.out rfl
   have Q1 := Lib.hid P1
   have Q2 := Lib.hid P2
   have Q3 := Lib.hid P3
   have hS2 := Lib.hid hS
   clear P1 P2 P3 hS
   have C1 := (B1.out.on hS2.out).cell 0
   have C2 := Lib.hid (B2.out.on hS2.out)
   obtain ⟨WL, hWL⟩ : ∃ WL, WL = _ := ⟨_, (leaf_eq hS2.out)⟩
   rw [← hWL] at hS2 Q1 Q2 Q3 T8 C1 C2 ⊢
   clear hWL
   rcases (show k = 1 ∨ k = 2 ∨ k = 3 ∨ k = 4 ∨ k = 5 by omega) with rfl | rfl | rfl | rfl | rfl
   ·obtain ⟨c0, c1, c2, c3, c4⟩ := cells5 T8 5 6 7 8 9 (by decide) rfl
    clear T8
    go_wp2
    obtain ⟨w9, he, hD, hbD, hsD, hcD⟩ := five_stores (P := Tryz.prog) C2.out (hone _ _ _) (hone _ _ _) (hone _ _ _) (hone _ _ _) (hone _ _ _)
    rw [he]
    go_wp2
    have hb8 := bon HB.out hS2.out
    refine bodyPost_ret (results_cell_row rfl _ _ _ _ _ _ _ rfl hD rfl rfl (by kernel_rfl)) rfl ⟨_, _, _, _, _, rfl, ?_, ?_⟩
    ·exact .inl ⟨rfl, Q1.out.five C2.out hsD hcD⟩
    ·exact hb8.trans (hbD.mono (Nat.le_succ _))
   ·obtain ⟨c0, c1, c2, c3, c4⟩ := cells5 T8 10 11 12 13 14 (by decide) rfl
    clear T8
    go_wp2
    obtain ⟨w9, he, hD, hbD, hsD, hcD⟩ := five_stores (P := Tryz.prog) C2.out (hone _ _ _) (hone _ _ _) (hone _ _ _) (hone _ _ _) (hone _ _ _)
    rw [he]
    go_wp2
    have hb8 := bon HB.out hS2.out
    refine bodyPost_ret (results_cell_row rfl _ _ _ _ _ _ _ rfl hD rfl rfl (by kernel_rfl)) rfl ⟨_, _, _, _, _, rfl, ?_, ?_⟩
    ·exact .inr (.inl ⟨rfl, Q2.out.five C2.out hsD hcD⟩)
    ·exact hb8.trans (hbD.mono (Nat.le_succ _))
   ·obtain ⟨c0, c1, c2, c3, c4⟩ := cells5 T8 15 16 17 18 19 (by decide) rfl
    clear T8
    go_wp2
    obtain ⟨w9, he, hD, hbD, hsD, hcD⟩ := five_stores (P := Tryz.prog) C2.out (hone _ _ _) (hone _ _ _) (hone _ _ _) (hone _ _ _) (hone _ _ _)
    rw [he]
    go_wp2
    have hb8 := bon HB.out hS2.out
    refine bodyPost_ret (results_cell_row rfl _ _ _ _ _ _ _ rfl hD rfl rfl (by kernel_rfl)) rfl ⟨_, _, _, _, _, rfl, ?_, ?_⟩
    ·exact .inr (.inr (.inl ⟨rfl, Q3.out.five C2.out hsD hcD⟩))
    ·exact hb8.trans (hbD.mono (Nat.le_succ _))
   ·obtain ⟨c0, c1, c2, c3, c4⟩ := cells5 T8 20 21 22 23 24 (by decide) rfl
    clear T8
    go_wp2
    obtain ⟨w9, he, hD, hbD, hsD, hcD⟩ := five_stores (P := Tryz.prog) C2.out (hone _ _ _) (hone _ _ _) (hone _ _ _) (hone _ _ _) (hone _ _ _)
    rw [he]
    go_wp2
    have hb8 := bon HB.out hS2.out
    refine bodyPost_ret (results_cell_row rfl _ _ _ _ _ _ _ rfl hD rfl rfl (by kernel_rfl)) rfl ⟨_, _, _, _, _, rfl, ?_, ?_⟩
    ·exact .inr (.inr (.inr (.inl ⟨rfl, _, rfl, by have := hS2.out.size; have := Hsz4.out; omega, (hcD _ (by omega)).trans (H4.out _ hS2.out)⟩)))
    ·exact hb8.trans (hbD.mono (Nat.le_succ _))
   ·obtain ⟨c0, c1, c2, c3, c4⟩ := cells5 T8 25 26 27 28 29 (by decide) rfl
    clear T8
    go_wp2
    obtain ⟨w9, he, hD, hbD, hsD, hcD⟩ := five_stores (P := Tryz.prog) C2.out (hone _ _ _) (hone _ _ _) (hone _ _ _) (hone _ _ _) (hone _ _ _)
    rw [he]
    go_wp2
    have hb8 := bon HB.out hS2.out
    refine bodyPost_ret (results_cell_row rfl _ _ _ _ _ _ _ rfl hD rfl rfl (by kernel_rfl)) rfl ⟨_, _, _, _, _, rfl, ?_, ?_⟩
    ·exact .inr (.inr (.inr (.inr ⟨rfl, rfl⟩)))
    ·exact hb8.trans (hbD.mono (Nat.le_succ _))
 ·have hT := Lib.hid (Blk.new' W4.drew 247 kz _ rfl)
  have hTg : W4.heap.size ≤ W4.drew.heap.size := hS.size
  refine plan_eff1 rfl (by simp [Region.wanted, yielded]) fun K hK => ?_
  go_simp
  refine held_go hK (by exact bal hS _) fun hS => ?_
  clear hK K
  try simp only [Act.put, zpA, zpB, zpC]
  refine plan_eff1 rfl (by simp [Region.wanted, yielded]) fun K hK => ?_
  go_simp
  with_reducible refine (of1_any 0 1 _).mono ?_
  rintro e w5 ⟨_, rfl, ⟨p1, q1, rfl, lp1, lq1, cp1, cq1⟩, hb1⟩
  have hF1 := Lib.hid (show PlainF w5 _ 0 1 from ⟨p1, q1, rfl, lp1, lq1, cp1, cq1⟩)
  clear lp1 lq1 cp1 cq1
  refine held_go hK (by exact bon hS hb1) fun hS => ?_
  clear hK K
  try simp only [Act.put, zpA, zpB, zpC]
  refine plan_pure (v := ?_) rfl rfl (by simp [Region.wanted, yielded]) hS ?_ ?_
  rotate_left
  ·intro w hw; go_simp; try with_reducible rfl
  try simp only [Act.put, zpA, zpB, zpC]
  refine plan_eff1 rfl (by simp [Region.wanted, yielded]) fun K hK => ?_
  go_simp
  with_reducible refine (of1_any (-2147483648) 2147483647 _).mono ?_
  rintro e w6 ⟨_, rfl, ⟨p2, q2, rfl, lp2, lq2, cp2, cq2⟩, hb2⟩
  have hF2 := Lib.hid (show PlainF w6 _ (-2147483648) 2147483647 from ⟨p2, q2, rfl, lp2, lq2, cp2, cq2⟩)
  clear lp2 lq2 cp2 cq2
  refine held_go hK (by exact bon hS hb2) fun hS => ?_
  clear hK K
  try simp only [Act.put, zpA, zpB, zpC]
  refine plan_pure (v := ?_) rfl rfl (by simp [Region.wanted, yielded]) hS ?_ ?_
  rotate_left
  ·intro w hw; go_simp; try with_reducible rfl
  try simp only [Act.put, zpA, zpB, zpC]
  refine plan_eff1 rfl (by simp [Region.wanted, yielded]) fun K hK => ?_
  go_simp
  with_reducible refine (of1_any (-9223372036854775808) 9223372036854775807 _).mono ?_
  rintro e w7 ⟨_, rfl, ⟨p3, q3, rfl, lp3, lq3, cp3, cq3⟩, hb3⟩
  have hF3 := Lib.hid (show PlainF w7 _ (-9223372036854775808) 9223372036854775807 from ⟨p3, q3, rfl, lp3, lq3, cp3, cq3⟩)
  clear lp3 lq3 cp3 cq3
  refine held_go hK (by exact bon hS hb3) fun hS => ?_
  clear hK K
  try simp only [Act.put, zpA, zpB, zpC]
  iterate 2
   refine plan_pure (v := ?_) rfl rfl (by simp [Region.wanted, yielded]) hS ?_ ?_
   rotate_left
   ·intro w hw; go_simp; try with_reducible rfl
   try simp only [Act.put, zpA, zpB, zpC]
  replace hT := Lib.hid (((hT.out.on hb1).on hb2).on hb3)
  replace hF1 := Lib.hid ((hF1.out.on hb2).on hb3)
  replace hF2 := Lib.hid (hF2.out.on hb3)
  refine plan_eff1 rfl (by simp [Region.wanted, yielded]) fun K hK => ?_
  refine wp_store_row 247 (.tmp 5) (.tmp 19) rfl _ _ rfl rfl _ _ hT.out (by kernel_rfl) rfl (by simp [Value.oneCell']) ?_
  refine held_go hK (by exact below_setRow hS hTg _) fun hS => ?_
  clear hK K
  try simp only [Act.put, zpA, zpB, zpC]
  refine plan_end ?_
  have hone : ∀ f a b, (Value.func f a b).oneCell' = true := fun _ _ _ => rfl
  obtain ⟨P1, P2, P3, T8⟩ := leaf_ends hS hF1.out hF2.out hF3.out hT.out rfl
  have Q1 := Lib.hid P1
  have Q2 := Lib.hid P2
  have Q3 := Lib.hid P3
  have hS2 := Lib.hid hS
  clear P1 P2 P3 hS
  have C1 := (B1.out.on hS2.out).cell 0
  have C2 := Lib.hid (B2.out.on hS2.out)
  obtain ⟨WL, hWL⟩ : ∃ WL, WL = _ := ⟨_, (leaf_eq hS2.out)⟩
  rw [← hWL] at hS2 Q1 Q2 Q3 T8 C1 C2 ⊢
  clear hWL
  rcases (show k = 1 ∨ k = 2 ∨ k = 3 ∨ k = 4 ∨ k = 5 by omega) with rfl | rfl | rfl | rfl | rfl
  ·obtain ⟨c0, c1, c2, c3, c4⟩ := cells5 T8 5 6 7 8 9 (by decide) rfl
   clear T8
   go_wp2
   obtain ⟨w9, he, hD, hbD, hsD, hcD⟩ := five_stores (P := Tryz.prog) C2.out (hone _ _ _) (hone _ _ _) (hone _ _ _) (hone _ _ _) (hone _ _ _)
   rw [he]
   go_wp2
   have hb8 := bon HB.out hS2.out
   refine bodyPost_ret (results_cell_row rfl _ _ _ _ _ _ _ rfl hD rfl rfl (by kernel_rfl)) rfl ⟨_, _, _, _, _, rfl, ?_, ?_⟩
   ·exact .inl ⟨rfl, Q1.out.five C2.out hsD hcD⟩
   ·exact hb8.trans (hbD.mono (Nat.le_succ _))
  ·obtain ⟨c0, c1, c2, c3, c4⟩ := cells5 T8 10 11 12 13 14 (by decide) rfl
   clear T8
   go_wp2
   obtain ⟨w9, he, hD, hbD, hsD, hcD⟩ := five_stores (P := Tryz.prog) C2.out (hone _ _ _) (hone _ _ _) (hone _ _ _) (hone _ _ _) (hone _ _ _)
   rw [he]
   go_wp2
   have hb8 := bon HB.out hS2.out
   refine bodyPost_ret (results_cell_row rfl _ _ _ _ _ _ _ rfl hD rfl rfl (by kernel_rfl)) rfl ⟨_, _, _, _, _, rfl, ?_, ?_⟩
   ·exact .inr (.inl ⟨rfl, Q2.out.five C2.out hsD hcD⟩)
   ·exact hb8.trans (hbD.mono (Nat.le_succ _))
  ·obtain ⟨c0, c1, c2, c3, c4⟩ := cells5 T8 15 16 17 18 19 (by decide) rfl
   clear T8
   go_wp2
   obtain ⟨w9, he, hD, hbD, hsD, hcD⟩ := five_stores (P := Tryz.prog) C2.out (hone _ _ _) (hone _ _ _) (hone _ _ _) (hone _ _ _) (hone _ _ _)
   rw [he]
   go_wp2
   have hb8 := bon HB.out hS2.out
   refine bodyPost_ret (results_cell_row rfl _ _ _ _ _ _ _ rfl hD rfl rfl (by kernel_rfl)) rfl ⟨_, _, _, _, _, rfl, ?_, ?_⟩
   ·exact .inr (.inr (.inl ⟨rfl, Q3.out.five C2.out hsD hcD⟩))
   ·exact hb8.trans (hbD.mono (Nat.le_succ _))
  ·obtain ⟨c0, c1, c2, c3, c4⟩ := cells5 T8 20 21 22 23 24 (by decide) rfl
   clear T8
   go_wp2
   obtain ⟨w9, he, hD, hbD, hsD, hcD⟩ := five_stores (P := Tryz.prog) C2.out (hone _ _ _) (hone _ _ _) (hone _ _ _) (hone _ _ _) (hone _ _ _)
   rw [he]
   go_wp2
   have hb8 := bon HB.out hS2.out
   refine bodyPost_ret (results_cell_row rfl _ _ _ _ _ _ _ rfl hD rfl rfl (by kernel_rfl)) rfl ⟨_, _, _, _, _, rfl, ?_, ?_⟩
   ·exact .inr (.inr (.inr (.inl ⟨rfl, _, rfl, by have := hS2.out.size; have := Hsz4.out; omega, (hcD _ (by omega)).trans (H4.out _ hS2.out)⟩)))
   ·exact hb8.trans (hbD.mono (Nat.le_succ _))
  ·obtain ⟨c0, c1, c2, c3, c4⟩ := cells5 T8 25 26 27 28 29 (by decide) rfl
   clear T8
   go_wp2
   obtain ⟨w9, he, hD, hbD, hsD, hcD⟩ := five_stores (P := Tryz.prog) C2.out (hone _ _ _) (hone _ _ _) (hone _ _ _) (hone _ _ _) (hone _ _ _)
   rw [he]
   go_wp2
   have hb8 := bon HB.out hS2.out
   refine bodyPost_ret (results_cell_row rfl _ _ _ _ _ _ _ rfl hD rfl rfl (by kernel_rfl)) rfl ⟨_, _, _, _, _, rfl, ?_, ?_⟩
   ·exact .inr (.inr (.inr (.inr ⟨rfl, rfl⟩)))
   ·exact hb8.trans (hbD.mono (Nat.le_succ _))
end Go.Proofs.YtjpjalmilfgckaaGreatDoor
