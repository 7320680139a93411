/- A region that draws its order, walked by a plan, under a condition on the world that every operation keeps: as XHeld's orders, and where two operations may come up, both are gone through, each with a plan of its own. -/
import Derived.Test.YtnkkhplddjopnaaHeld
namespace Go.Proofs.Ytnkkhplddjopnaa
inductive Plan where
  | done
  | pure (i : Nat) (p : Plan)
  | eff (i : Nat) (p : Plan)
  | fork (i j : Nat) (p q : Plan)
section
variable {P : Program} {md : Region.Mode} {ops : Array Oper} {Q : Exit → Act → World → Prop} {S : World → Prop}
def wpPlan (P : Program) (ops : Array Oper) (Q : Exit → Act → World → Prop) (S : World → Prop) : Plan → Act → World → Prop
  | .done, a, w => Q .normal a w
  | .eff i p, a, w => ∃ o, ops[i]? = some o ∧ ∀ K : Act → World → Prop, (∀ a w, S w → wpPlan P ops Q S p a w → K a w) → if Region.wanted o (yielded ops a.tmps) then o.wp P a w K Q else K (a.put o.dst undef) w
  | .pure i p, a, w => ∃ o v, ops[i]? = some o ∧ YieldsIf P ops S o v a ∧ S w ∧ wpPlan P ops Q S p (a.put o.dst v) w
  | .fork i j p q, a, w => (∃ o, ops[i]? = some o ∧ ∀ K : Act → World → Prop, (∀ a w, S w → wpPlan P ops Q S p a w → K a w) → if Region.wanted o (yielded ops a.tmps) then o.wp P a w K Q else K (a.put o.dst undef) w) ∧
      (∃ o, ops[j]? = some o ∧ ∀ K : Act → World → Prop, (∀ a w, S w → wpPlan P ops Q S q a w → K a w) → if Region.wanted o (yielded ops a.tmps) then o.wp P a w K Q else K (a.put o.dst undef) w)

theorem plan_pure {i : Nat} {o : Oper} {d : Tmp} {p : Plan} {a : Act} {w : World} {v : Value} (ho : ops[i]? = some o) (hd : o.dst = some d) (hw : Region.wanted o (yielded ops a.tmps) = true) (hS : S w)
    (hy : ∀ w, S w → (execOp a.eval o).run P w = .ok (.value v) w) (h : wpPlan P ops Q S p { tmps := a.tmps.setIfInBounds d v, defers := a.defers } w) : wpPlan P ops Q S (.pure i p) a w :=
  ⟨o, v, ho, .inl ⟨hw, hy⟩, hS, by rw [hd]; exact h⟩
theorem plan_off {i : Nat} {o : Oper} {d : Tmp} {p : Plan} {a : Act} {w : World} (ho : ops[i]? = some o) (hd : o.dst = some d) (hw : Region.wanted o (yielded ops a.tmps) = false) (hS : S w)
    (h : wpPlan P ops Q S p { tmps := a.tmps.setIfInBounds d undef, defers := a.defers } w) : wpPlan P ops Q S (.pure i p) a w :=
  ⟨o, undef, ho, .inr ⟨hw, rfl⟩, hS, by rw [hd]; exact h⟩
theorem plan_eff {i : Nat} {o : Oper} {p : Plan} {a : Act} {w : World} (ho : ops[i]? = some o)
    (h : ∀ K : Act → World → Prop, (∀ a w, S w → wpPlan P ops Q S p a w → K a w) → if Region.wanted o (yielded ops a.tmps) then o.wp P a w K Q else K (a.put o.dst undef) w) : wpPlan P ops Q S (.eff i p) a w :=
  ⟨o, ho, h⟩
theorem plan_eff1 {i : Nat} {o : Oper} {p : Plan} {a : Act} {w : World} (ho : ops[i]? = some o) (hw : Region.wanted o (yielded ops a.tmps) = true)
    (h : ∀ K : Act → World → Prop, (∀ a w, S w → wpPlan P ops Q S p a w → K a w) → o.wp P a w K Q) : wpPlan P ops Q S (.eff i p) a w :=
  ⟨o, ho, fun K hK => by rw [if_pos hw]; exact h K hK⟩
/-- Two may come up: each as an effect, with a plan of its own. -/
theorem plan_fork {i j : Nat} {p q : Plan} {a : Act} {w : World} (h1 : wpPlan P ops Q S (.eff i p) a w) (h2 : wpPlan P ops Q S (.eff j q) a w) : wpPlan P ops Q S (.fork i j p q) a w := ⟨h1, h2⟩
theorem plan_end {a : Act} {w : World} (h : Q .normal a w) : wpPlan P ops Q S .done a w := h

/-- May it be walked by that plan? -/
def planB (md : Region.Mode) (ops : Array Oper) : Plan → Array Bool → Bool
  | .done, listed => (Region.ready md ops listed).isEmpty
  | .eff i p, listed => Region.ready md ops listed == [i] && planB md ops p (listed.setIfInBounds i true)
  | .pure i p, listed => Region.free md ops listed i && (Region.ready md ops listed).contains i && planB md ops p (listed.setIfInBounds i true)
  | .fork i j p q, listed => Region.ready md ops listed == [i, j] && planB md ops p (listed.setIfInBounds i true) && planB md ops q (listed.setIfInBounds j true)
def planN : Plan → Nat
  | .done => 0
  | .eff _ p => planN p + 1
  | .pure _ p => planN p + 1
  | .fork _ _ p q => max (planN p) (planN q) + 1

theorem wpAnyH_of_plan (hs : Region.noSelect ops = true) (hQ : ∀ d v c a w, Q (.panic c) (Act.put a d v) w → Q (.panic c) a w) :
    ∀ (l : Plan) (fuel : Nat) (listed : Array Bool) (a : Act) (w : World), planN l ≤ fuel → planB md ops l listed = true → wpPlan P ops Q S l a w → wpAnyH P md ops Q S fuel listed a w := by
  intro l
  induction l with
  | done =>
    intro fuel listed a w _ ho h
    have hr : Region.ready md ops listed = [] := by simpa [planB] using ho
    exact wpAnyH_done hr h fuel
  | eff i p ih =>
    intro fuel listed a w hf ho h
    simp only [planN] at hf
    obtain ⟨fuel, rfl⟩ : ∃ f, fuel = f + 1 := ⟨fuel - 1, by omega⟩
    simp only [planB, Bool.and_eq_true, beq_iff_eq] at ho
    obtain ⟨o, hoi, hl⟩ := h
    refine wpAnyH_all ho.1 (by simp) fun j hj => ?_
    obtain rfl : j = i := by simpa using hj
    unfold wpOp
    simp only [hoi]
    have := hl (fun a' w' => S w' ∧ wpAnyH P md ops Q S fuel (listed.setIfInBounds j true) a' w') (fun a w hS h => ⟨hS, ih fuel _ a w (by omega) ho.2 h⟩)
    split at this
    · rename_i hw
      simp only [hw, if_true]
      exact .inl this
    · rename_i hw
      simp only [hw, if_false, Bool.false_eq_true]
      exact this
  | pure i p ih =>
    intro fuel listed a w hf ho h
    simp only [planN] at hf
    obtain ⟨fuel, rfl⟩ : ∃ f, fuel = f + 1 := ⟨fuel - 1, by omega⟩
    simp only [planB, Bool.and_eq_true] at ho
    obtain ⟨o, v, hoi, hy, hS, hl⟩ := h
    exact wpAnyH_take hoi hs ho.1.1 ho.1.2 (fun c a w => hQ _ _ c a w) hy hS (ih fuel _ _ w (by omega) ho.2 hl)
  | fork i j p q ih1 ih2 =>
    intro fuel listed a w hf ho h
    simp only [planN] at hf
    obtain ⟨fuel, rfl⟩ : ∃ f, fuel = f + 1 := ⟨fuel - 1, by omega⟩
    simp only [planB, Bool.and_eq_true, beq_iff_eq] at ho
    refine wpAnyH_all ho.1.1 (by simp) fun k hk => ?_
    have hk' : k = i ∨ k = j := by simpa using hk
    rcases hk' with rfl | rfl
    · obtain ⟨o, hoi, hl⟩ := h.1
      unfold wpOp
      simp only [hoi]
      have := hl (fun a' w' => S w' ∧ wpAnyH P md ops Q S fuel (listed.setIfInBounds k true) a' w') (fun a w hS h => ⟨hS, ih1 fuel _ a w (by omega) ho.1.2 h⟩)
      split at this
      · rename_i hw
        simp only [hw, if_true]
        exact .inl this
      · rename_i hw
        simp only [hw, if_false, Bool.false_eq_true]
        exact this
    · obtain ⟨o, hoi, hl⟩ := h.2
      unfold wpOp
      simp only [hoi]
      have := hl (fun a' w' => S w' ∧ wpAnyH P md ops Q S fuel (listed.setIfInBounds k true) a' w') (fun a w hS h => ⟨hS, ih2 fuel _ a w (by omega) ho.2 h⟩)
      split at this
      · rename_i hw
        simp only [hw, if_true]
        exact .inl this
      · rename_i hw
        simp only [hw, if_false, Bool.false_eq_true]
        exact this

theorem wp_region_plan (S : World → Prop) (l : Plan) {id : Nat} {a : Act} {w : World} (hm : P.follows .mixedOrders = true) (hs : Region.noSelect ops = true)
    (ho : (Nat.ble (planN l) ops.size && planB .any ops l (Array.replicate ops.size false)) = true)
    (hQ : ∀ d v c a w, Q (.panic c) (Act.put a d v) w → Q (.panic c) a w)
    (h : wpPlan P ops Q S l a w.drew) : (Code.region id ops true).wp P Q a w := by
  simp only [Bool.and_eq_true, Nat.ble_eq] at ho
  exact wp_region_held hm (wpAnyH_of_plan hs hQ l ops.size _ a _ ho.1 ho.2 h)
end
end Go.Proofs.Ytnkkhplddjopnaa
