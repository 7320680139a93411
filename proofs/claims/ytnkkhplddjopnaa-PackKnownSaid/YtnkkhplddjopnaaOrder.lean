/- A region that draws its order, walked in one order: what yields in every world is taken where it is free, every other operation is the only one that may come up. -/
import Derived.RegionTactic
import Derived.WalkKit
namespace Go.Proofs.Ytnkkhplddjopnaa
section
variable {P : Program} {md : Region.Mode} {ops : Array Oper} {Q : Exit → Act → World → Prop}

/-- In that order (true: the operation is an effect). -/
def wpMix (P : Program) (ops : Array Oper) (Q : Exit → Act → World → Prop) : List (Nat × Bool) → Act → World → Prop
  | [], a, w => Q .normal a w
  | (i, true) :: rest, a, w => ∃ o, ops[i]? = some o ∧ ∀ K : Act → World → Prop, (∀ a w, wpMix P ops Q rest a w → K a w) → if Region.wanted o (yielded ops a.tmps) then o.wp P a w K Q else K (a.put o.dst undef) w
  | (i, false) :: rest, a, w => ∃ o v, ops[i]? = some o ∧ Yields P ops o v a ∧ wpMix P ops Q rest (a.put o.dst v) w

theorem mix_pure {i : Nat} {o : Oper} {d : Tmp} {rest : List (Nat × Bool)} {a : Act} {w : World} {v : Value} (ho : ops[i]? = some o) (hd : o.dst = some d) (hw : Region.wanted o (yielded ops a.tmps) = true)
    (hy : ∀ w, (execOp a.eval o).run P w = .ok (.value v) w) (h : wpMix P ops Q rest { tmps := a.tmps.setIfInBounds d v, defers := a.defers } w) : wpMix P ops Q ((i, false) :: rest) a w :=
  ⟨o, v, ho, .inl ⟨hw, hy⟩, by rw [hd]; exact h⟩
theorem mix_off {i : Nat} {o : Oper} {d : Tmp} {rest : List (Nat × Bool)} {a : Act} {w : World} (ho : ops[i]? = some o) (hd : o.dst = some d) (hw : Region.wanted o (yielded ops a.tmps) = false)
    (h : wpMix P ops Q rest { tmps := a.tmps.setIfInBounds d undef, defers := a.defers } w) : wpMix P ops Q ((i, false) :: rest) a w :=
  ⟨o, undef, ho, .inr ⟨hw, rfl⟩, by rw [hd]; exact h⟩
theorem mix_eff {i : Nat} {o : Oper} {rest : List (Nat × Bool)} {a : Act} {w : World} (ho : ops[i]? = some o)
    (h : ∀ K : Act → World → Prop, (∀ a w, wpMix P ops Q rest a w → K a w) → if Region.wanted o (yielded ops a.tmps) then o.wp P a w K Q else K (a.put o.dst undef) w) : wpMix P ops Q ((i, true) :: rest) a w :=
  ⟨o, ho, h⟩
theorem mix_end {a : Act} {w : World} (h : Q .normal a w) : wpMix P ops Q [] a w := h

/-- May it be walked in that order? -/
def orderB (md : Region.Mode) (ops : Array Oper) : List (Nat × Bool) → Array Bool → Bool
  | [], listed => (Region.ready md ops listed).isEmpty
  | (i, true) :: rest, listed => Region.ready md ops listed == [i] && orderB md ops rest (listed.setIfInBounds i true)
  | (i, false) :: rest, listed => Region.free md ops listed i && (Region.ready md ops listed).contains i && orderB md ops rest (listed.setIfInBounds i true)

theorem wpAny_of_mix (hs : Region.noSelect ops = true) (hQ : ∀ d v c a w, Q (.panic c) (Act.put a d v) w → Q (.panic c) a w) :
    ∀ (l : List (Nat × Bool)) (fuel : Nat) (listed : Array Bool) (a : Act) (w : World), l.length ≤ fuel → orderB md ops l listed = true → wpMix P ops Q l a w → wpAny P md ops Q fuel listed a w := by
  intro l
  induction l with
  | nil =>
    intro fuel listed a w _ ho h
    have hr : Region.ready md ops listed = [] := by simpa [orderB] using ho
    exact wpAny_done hr h fuel
  | cons x rest ih =>
    intro fuel listed a w hf ho h
    obtain ⟨i, b⟩ := x
    obtain ⟨fuel, rfl⟩ : ∃ f, fuel = f + 1 := ⟨fuel - 1, by simp at hf; omega⟩
    cases b with
    | true =>
      simp only [orderB, Bool.and_eq_true, beq_iff_eq] at ho
      obtain ⟨o, hoi, hl⟩ := h
      refine wpAny_all ho.1 (by simp) fun j hj => ?_
      obtain rfl : j = i := by simpa using hj
      unfold wpOp
      simp only [hoi]
      have := hl (wpAny P md ops Q fuel (listed.setIfInBounds j true)) (fun a w h => ih fuel _ a w (by simpa using hf) ho.2 h)
      split at this
      · rename_i hw
        simp only [hw, if_true]
        exact .inl this
      · rename_i hw
        simp only [hw, if_false, Bool.false_eq_true]
        exact this
    | false =>
      simp only [orderB, Bool.and_eq_true] at ho
      obtain ⟨o, v, hoi, hy, hl⟩ := h
      exact wpAny_take hoi hs ho.1.1 ho.1.2 (fun c a w => hQ _ _ c a w) hy (ih fuel _ _ w (by simpa using hf) ho.2 hl)

theorem wp_region_order {id : Nat} {a : Act} {w : World} (l : List (Nat × Bool)) (hm : P.follows .mixedOrders = true) (hs : Region.noSelect ops = true)
    (ho : (l.length == ops.size && orderB .any ops l (Array.replicate ops.size false)) = true)
    (hQ : ∀ d v c a w, Q (.panic c) (Act.put a d v) w → Q (.panic c) a w)
    (h : wpMix P ops Q l a w.drew) : (Code.region id ops true).wp P Q a w := by
  simp only [Bool.and_eq_true, beq_iff_eq] at ho
  exact wp_region_any hm (wpAny_of_mix hs hQ l ops.size _ a _ (by omega) ho.2 h)
end
end Go.Proofs.Ytnkkhplddjopnaa
