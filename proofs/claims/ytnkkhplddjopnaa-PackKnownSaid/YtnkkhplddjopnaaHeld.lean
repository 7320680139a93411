/- A region that draws its order, walked in one order, under a condition on the world that every operation keeps: what yields in every world that meets it is taken where it is free, every other operation is the only one that may come up. -/
import Derived.OrdersHeld
import Derived.RegionTactic
import Derived.WalkKit
import Derived.Test.YtnkkhplddjopnaaOrder
namespace Go.Proofs.Ytnkkhplddjopnaa
section
variable {P : Program} {md : Region.Mode} {ops : Array Oper} {Q : Exit → Act → World → Prop} {S : World → Prop}

/-- In that order (true: the operation is an effect). -/
def wpHeld (P : Program) (ops : Array Oper) (Q : Exit → Act → World → Prop) (S : World → Prop) : List (Nat × Bool) → Act → World → Prop
  | [], a, w => Q .normal a w
  | (i, true) :: rest, a, w => ∃ o, ops[i]? = some o ∧ ∀ K : Act → World → Prop, (∀ a w, S w → wpHeld P ops Q S rest a w → K a w) → if Region.wanted o (yielded ops a.tmps) then o.wp P a w K Q else K (a.put o.dst undef) w
  | (i, false) :: rest, a, w => ∃ o v, ops[i]? = some o ∧ YieldsIf P ops S o v a ∧ S w ∧ wpHeld P ops Q S rest (a.put o.dst v) w

theorem held_pure {i : Nat} {o : Oper} {d : Tmp} {rest : List (Nat × Bool)} {a : Act} {w : World} {v : Value} (ho : ops[i]? = some o) (hd : o.dst = some d) (hw : Region.wanted o (yielded ops a.tmps) = true) (hS : S w)
    (hy : ∀ w, S w → (execOp a.eval o).run P w = .ok (.value v) w) (h : wpHeld P ops Q S rest { tmps := a.tmps.setIfInBounds d v, defers := a.defers } w) : wpHeld P ops Q S ((i, false) :: rest) a w :=
  ⟨o, v, ho, .inl ⟨hw, hy⟩, hS, by rw [hd]; exact h⟩
theorem held_off {i : Nat} {o : Oper} {d : Tmp} {rest : List (Nat × Bool)} {a : Act} {w : World} (ho : ops[i]? = some o) (hd : o.dst = some d) (hw : Region.wanted o (yielded ops a.tmps) = false) (hS : S w)
    (h : wpHeld P ops Q S rest { tmps := a.tmps.setIfInBounds d undef, defers := a.defers } w) : wpHeld P ops Q S ((i, false) :: rest) a w :=
  ⟨o, undef, ho, .inr ⟨hw, rfl⟩, hS, by rw [hd]; exact h⟩
theorem held_eff {i : Nat} {o : Oper} {rest : List (Nat × Bool)} {a : Act} {w : World} (ho : ops[i]? = some o)
    (h : ∀ K : Act → World → Prop, (∀ a w, S w → wpHeld P ops Q S rest a w → K a w) → if Region.wanted o (yielded ops a.tmps) then o.wp P a w K Q else K (a.put o.dst undef) w) : wpHeld P ops Q S ((i, true) :: rest) a w :=
  ⟨o, ho, h⟩
theorem held_eff1 {i : Nat} {o : Oper} {rest : List (Nat × Bool)} {a : Act} {w : World} (ho : ops[i]? = some o) (hw : Region.wanted o (yielded ops a.tmps) = true)
    (h : ∀ K : Act → World → Prop, (∀ a w, S w → wpHeld P ops Q S rest a w → K a w) → o.wp P a w K Q) : wpHeld P ops Q S ((i, true) :: rest) a w :=
  ⟨o, ho, fun K hK => by rw [if_pos hw]; exact h K hK⟩
theorem held_go {X K : Act → World → Prop} {a : Act} {w : World} (hK : ∀ a w, S w → X a w → K a w) (hS : S w) (h : S w → X a w) : K a w := hK a w hS (h hS)
theorem held_end {a : Act} {w : World} (h : Q .normal a w) : wpHeld P ops Q S [] a w := h

theorem wpAnyH_of_held (hs : Region.noSelect ops = true) (hQ : ∀ d v c a w, Q (.panic c) (Act.put a d v) w → Q (.panic c) a w) :
    ∀ (l : List (Nat × Bool)) (fuel : Nat) (listed : Array Bool) (a : Act) (w : World), l.length ≤ fuel → orderB md ops l listed = true → wpHeld P ops Q S l a w → wpAnyH P md ops Q S fuel listed a w := by
  intro l
  induction l with
  | nil =>
    intro fuel listed a w _ ho h
    have hr : Region.ready md ops listed = [] := by simpa [orderB] using ho
    exact wpAnyH_done hr h fuel
  | cons x rest ih =>
    intro fuel listed a w hf ho h
    obtain ⟨i, b⟩ := x
    obtain ⟨fuel, rfl⟩ : ∃ f, fuel = f + 1 := ⟨fuel - 1, by simp at hf; omega⟩
    cases b with
    | true =>
      simp only [orderB, Bool.and_eq_true, beq_iff_eq] at ho
      obtain ⟨o, hoi, hl⟩ := h
      refine wpAnyH_all ho.1 (by simp) fun j hj => ?_
      obtain rfl : j = i := by simpa using hj
      unfold wpOp
      simp only [hoi]
      have := hl (fun a' w' => S w' ∧ wpAnyH P md ops Q S fuel (listed.setIfInBounds j true) a' w') (fun a w hS h => ⟨hS, ih fuel _ a w (by simpa using hf) ho.2 h⟩)
      split at this
      · rename_i hw
        simp only [hw, if_true]
        exact .inl this
      · rename_i hw
        simp only [hw, if_false, Bool.false_eq_true]
        exact this
    | false =>
      simp only [orderB, Bool.and_eq_true] at ho
      obtain ⟨o, v, hoi, hy, hS, hl⟩ := h
      exact wpAnyH_take hoi hs ho.1.1 ho.1.2 (fun c a w => hQ _ _ c a w) hy hS (ih fuel _ _ w (by simpa using hf) ho.2 hl)

theorem wp_region_keep (S : World → Prop) (l : List (Nat × Bool)) {id : Nat} {a : Act} {w : World} (hm : P.follows .mixedOrders = true) (hs : Region.noSelect ops = true)
    (ho : (l.length == ops.size && orderB .any ops l (Array.replicate ops.size false)) = true)
    (hQ : ∀ d v c a w, Q (.panic c) (Act.put a d v) w → Q (.panic c) a w)
    (h : wpHeld P ops Q S l a w.drew) : (Code.region id ops true).wp P Q a w := by
  simp only [Bool.and_eq_true, beq_iff_eq] at ho
  exact wp_region_held hm (wpAnyH_of_held hs hQ l ops.size _ a _ (by omega) ho.2 h)
end
end Go.Proofs.Ytnkkhplddjopnaa
