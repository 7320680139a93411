/- Part 4 of the walks, merged: each text under its own heading. Conditions: none of its own; each lemma states what it asks. -/
import Derived.Test.YtfgpbnfobpfacaaGreatDoorPart3
import Derived.Deep.Fields
import Derived.Laws.BitsLemmas
/- Layer 9, walked: the program's Check. -/
set_option linter.unusedVariables false
set_option linter.unusedSimpArgs false
namespace Go.Proofs.YtfgpbnfobpfacaaGreatDoor
open Go.RowKit
/-- Is a cell, not nothing, of a kind? -/
def isC (k : Int) (c : Cl) : Bool :=
  if k = 1 then decide (c.2.2 = ⟨#[]⟩ ∧ 0 ≤ c.2.1 ∧ c.2.1 ≤ 1)
  else if k = 2 then decide (c.2.2 = ⟨#[]⟩ ∧ -2147483648 ≤ c.2.1 ∧ c.2.1 ≤ 2147483647)
  else if k = 3 then decide (c.2.2 = ⟨#[]⟩ ∧ -9223372036854775808 ≤ c.2.1 ∧ c.2.1 ≤ 9223372036854775807)
  else if k = 4 then sizeC c.2.1 c.2.2 && Lib.validD c.2.2.data.toList
  else sizeC c.2.1 c.2.2
/-- What Check answers. -/
def checkE (k : Int) (nl : Bool) (c : Cl) : Int :=
  if mayK k then (if (if c.1 then nl && decide (c.2.1 = 0 ∧ c.2.2 = ⟨#[]⟩) else isC k c) then 0 else 90) else 2
theorem callFunc_in {P : Program} {f : FuncId} {fn : Func} (h : P.funcs[f]? = some fn) (hn : (fn.name == "runtime.NumGoroutine") = false) (hb : fn.body.isNone = false) (args : Array Value) (w : World) : (callFunc f args).run P w = .ok (.enter f args) w := by
  have h1 : fn.name ≠ "runtime.NumGoroutine" := by simpa using hn
  have h2 : fn.body ≠ none := by
    intro h
    rw [h] at hb
    cases hb
  simp [callFunc, h, h1, h2]
theorem IsF.calls {k : Int} {w : World} {F : Value} (h : IsF k w F) (c : Cl) (hT : Tabs w) :
    ∃ f caps, F = .func (.func f) #[] caps ∧ (Calls Tryz.prog f (#[clV c] ++ caps) w fun e w' => e = .returned (.bool (isC k c)) ∧ Below w.heap.size w w') ∧ ∀ args w', (callFunc f args).run Tryz.prog w' = .ok (.enter f args) w' := by
  rcases h with ⟨rfl, p, q, h1, h2, h3, h4, h5⟩ | ⟨rfl, p, q, h1, h2, h3, h4, h5⟩ | ⟨rfl, p, q, h1, h2, h3, h4, h5⟩ | ⟨rfl, p, h1, h2, h3⟩ | ⟨rfl, h1⟩
  · exact ⟨_, _, h1, plain_any p q _ _ c.2.1 c.1 c.2.2 w h2 h3 h4 h5, fun args w' => callFunc_in Tryz.func68 (by kernel_rfl) (by kernel_rfl) args w'⟩
  · exact ⟨_, _, h1, plain_any p q _ _ c.2.1 c.1 c.2.2 w h2 h3 h4 h5, fun args w' => callFunc_in Tryz.func68 (by kernel_rfl) (by kernel_rfl) args w'⟩
  · exact ⟨_, _, h1, plain_any p q _ _ c.2.1 c.1 c.2.2 w h2 h3 h4 h5, fun args w' => callFunc_in Tryz.func68 (by kernel_rfl) (by kernel_rfl) args w'⟩
  · exact ⟨_, _, h1, of5_any p c.2.1 c.1 c.2.2 w h2 h3 hT, fun args w' => callFunc_in Tryz.func79 (by kernel_rfl) (by kernel_rfl) args w'⟩
  · exact ⟨_, _, h1, of2_any c.2.1 c.1 c.2.2 w, fun args w' => callFunc_in Tryz.func69 (by kernel_rfl) (by kernel_rfl) args w'⟩
set_option maxRecDepth 100000 in
set_option maxHeartbeats 1000000 in
theorem check_any (k : Int) (nl : Bool) (c : Cl) (w : World) (hT : Tabs w) : Calls Tryz.prog 20 #[.agg #[.int .i64 k, .bool nl], clV c] w fun e w' => e = .returned (.int .i64 (checkE k nl c)) ∧ Below w.heap.size w w' := by
  obtain ⟨nu, n, s⟩ := c
  show Calls Tryz.prog 20 #[.agg #[.int .i64 k, .bool nl], .agg #[.bool nu, .int .i64 n, .string s]] w _
  have HT := Lib.hid hT
  clear hT
  have hb0 := Lib.hid (show Below w.heap.size w ((w.alloc (.cells #[.int .i64 k, .bool nl] 24)).alloc (.cells #[.bool nu, .int .i64 n, .string s] 41)) from ((Below.refl _ _).alloc (Nat.le_refl _) _).alloc (by simp) _)
  have B2 := Lib.hid ((Blk.new w 24 #[.int .i64 k, .bool nl]).alloc (.cells #[.bool nu, .int .i64 n, .string s] 41))
  have B3 := Lib.hid (Blk.new' (w.alloc (.cells #[.int .i64 k, .bool nl] 24)) 41 #[.bool nu, .int .i64 n, .string s] (w.heap.size + 1) (by simp))
  go_enter Tryz.func20, Tryz.ntmps20
  go_wp2_with fail
  with_reducible refine (may_any k nl _).mono ?_
  rintro e w1 ⟨rfl, hb1⟩
  have hb2 := Lib.hid (bon hb0.out hb1)
  replace B2 := Lib.hid (B2.out.on hb1)
  replace B3 := Lib.hid (B3.out.on hb1)
  clear hb1 hb0
  have c20 := B2.out.cell 0
  have c21 := B2.out.cell 1
  have c30 := B3.out.cell 0
  have c31 := B3.out.cell 1
  have c32 := B3.out.cell 2
  cases hm : mayK k with
  | false =>
    go_wp2
    go_ret
    exact ⟨by simp [checkE, hm], hb2.out⟩
  | true =>
    obtain ⟨hk1, hk5⟩ : 1 ≤ k ∧ k ≤ 5 := by simpa [mayK] using hm
    cases nu with
    | true =>
      cases nl with
      | false =>
        go_wp2
        go_ret
        exact ⟨by simp [checkE, hm], hb2.out⟩
      | true =>
        by_cases hn : n = 0
        · subst hn
          by_cases hs : s = ⟨#[]⟩
          · subst hs
            go_wp2
            have H30 := Lib.hid (show ∀ w', w' = w1.drew → w'.cell? ⟨w.heap.size + 1, 0, none⟩ = some (.bool true) from fun w' h => by rw [h]; exact c30)
            have hS : w1.drew = w1.drew := rfl
            refine wp_region_plan (fun w' => w' = w1.drew) (.pure 0 (.pure 1 (.pure 2 (.pure 3 (.pure 4 (.pure 7 (.eff 5 (.pure 6 (.eff 8 (.pure 9 (.pure 10 (.pure 11 .done)))))))))))) (by kernel_rfl) (by kernel_rfl) (by kernel_rfl) (fun d _ _ _ _ h => by cases d <;> exact h) ?_
            refine plan_pure (v := ?_) rfl rfl (by simp [Region.wanted, yielded]) hS ?_ ?_
            rotate_left
            · intro w hw; go_simp; try with_reducible rfl
            try simp only [Act.put, List.setIfInBounds_toArray, List.set_cons_succ, List.set_cons_zero]
            refine plan_pure (v := ?_) rfl rfl (by simp [Region.wanted, yielded]) hS ?_ ?_
            rotate_left
            · intro w hw; have c0 := H30.out w hw; clear hw; go_simp; try with_reducible rfl
            try simp only [Act.put, List.setIfInBounds_toArray, List.set_cons_succ, List.set_cons_zero]
            refine plan_pure (v := ?_) rfl rfl (by simp [Region.wanted, yielded]) hS ?_ ?_
            rotate_left
            · intro w hw; go_simp; try with_reducible rfl
            try simp only [Act.put, List.setIfInBounds_toArray, List.set_cons_succ, List.set_cons_zero]
            refine plan_pure (v := ?_) rfl rfl (by simp [Region.wanted, yielded]) hS ?_ ?_
            rotate_left
            · intro w hw; go_simp; try with_reducible rfl
            try simp only [Act.put, List.setIfInBounds_toArray, List.set_cons_succ, List.set_cons_zero]
            refine plan_off rfl rfl (by simp [Region.wanted, yielded, undef]) hS ?_
            simp only [Act.put, List.setIfInBounds_toArray, List.set_cons_succ, List.set_cons_zero]
            refine plan_off rfl rfl (by simp [Region.wanted, yielded, undef]) hS ?_
            simp only [Act.put, List.setIfInBounds_toArray, List.set_cons_succ, List.set_cons_zero]
            refine plan_eff rfl fun K hK => ?_
            go_simp
            refine held_go hK (by exact hS) fun hS => ?_
            clear hK K
            try simp only [Act.put, List.setIfInBounds_toArray, List.set_cons_succ, List.set_cons_zero]
            refine plan_off rfl rfl (by simp [Region.wanted, yielded, undef]) hS ?_
            simp only [Act.put, List.setIfInBounds_toArray, List.set_cons_succ, List.set_cons_zero]
            refine plan_eff rfl fun K hK => ?_
            go_simp
            refine held_go hK (by exact hS) fun hS => ?_
            clear hK K
            try simp only [Act.put, List.setIfInBounds_toArray, List.set_cons_succ, List.set_cons_zero]
            refine plan_off rfl rfl (by simp [Region.wanted, yielded, undef]) hS ?_
            simp only [Act.put, List.setIfInBounds_toArray, List.set_cons_succ, List.set_cons_zero]
            refine plan_pure (v := ?_) rfl rfl (by simp [Region.wanted, yielded]) hS ?_ ?_
            rotate_left
            · intro w hw; go_simp; try with_reducible rfl
            try simp only [Act.put, List.setIfInBounds_toArray, List.set_cons_succ, List.set_cons_zero]
            refine plan_pure (v := ?_) rfl rfl (by simp [Region.wanted, yielded]) hS ?_ ?_
            rotate_left
            · intro w hw; go_simp; try with_reducible rfl
            try simp only [Act.put, List.setIfInBounds_toArray, List.set_cons_succ, List.set_cons_zero]
            refine plan_end ?_
            go_wp2
            go_ret
            exact ⟨by simp [checkE, hm], hb2.out.drew⟩
          · have hss := empty_no hs
            go_wp2
            go_ret
            exact ⟨by simp [checkE, hm, hs], hb2.out⟩
        · have hnn : (n == 0) = false := by simpa using hn
          go_wp2
          go_ret
          exact ⟨by simp [checkE, hm, hn], hb2.out⟩
    | false =>
      have H20 := Lib.hid (show ∀ w', Below w1.heap.size w1 w' → w'.cell? ⟨w.heap.size, 0, none⟩ = some (.int .i64 k) from fun w' h => (h.cell (p := ⟨w.heap.size, 0, none⟩) B2.out.lt).trans c20)
      have H21 := Lib.hid (show ∀ w', Below w1.heap.size w1 w' → w'.cell? ⟨w.heap.size, 1, none⟩ = some (.bool nl) from fun w' h => (h.cell (p := ⟨w.heap.size, 1, none⟩) B2.out.lt).trans c21)
      have H30 := Lib.hid (show ∀ w', Below w1.heap.size w1 w' → w'.cell? ⟨w.heap.size + 1, 0, none⟩ = some (.bool false) from fun w' h => (h.cell (p := ⟨w.heap.size + 1, 0, none⟩) B3.out.lt).trans c30)
      have H31 := Lib.hid (show ∀ w', Below w1.heap.size w1 w' → w'.cell? ⟨w.heap.size + 1, 1, none⟩ = some (.int .i64 n) from fun w' h => (h.cell (p := ⟨w.heap.size + 1, 1, none⟩) B3.out.lt).trans c31)
      have H32 := Lib.hid (show ∀ w', Below w1.heap.size w1 w' → w'.cell? ⟨w.heap.size + 1, 2, none⟩ = some (.string s) from fun w' h => (h.cell (p := ⟨w.heap.size + 1, 2, none⟩) B3.out.lt).trans c32)
      have hE : checkE k nl (false, n, s) = if isC k (false, n, s) then 0 else 90 := by simp [checkE, hm]
      go_wp2
      have hS : Below w1.heap.size w1 w1.drew := (Below.refl _ _).drew
      refine wp_region_plan (fun w' => Below w1.heap.size w1 w') (.pure 0 (.pure 1 (.pure 2 (.pure 3 (.pure 4 (.pure 7 (.eff 5 (.pure 6 (.eff 8 (.pure 9 (.pure 10 (.pure 11 .done)))))))))))) (by kernel_rfl) (by kernel_rfl) (by kernel_rfl) (fun d _ _ _ _ h => by cases d <;> exact h) ?_
      refine plan_pure (v := ?_) rfl rfl (by simp [Region.wanted, yielded]) hS ?_ ?_
      rotate_left
      · intro w hw; go_simp; try with_reducible rfl
      try simp only [Act.put, List.setIfInBounds_toArray, List.set_cons_succ, List.set_cons_zero]
      refine plan_pure (v := ?_) rfl rfl (by simp [Region.wanted, yielded]) hS ?_ ?_
      rotate_left
      · intro w hw; have c0 := H30.out w hw; clear hw; go_simp; try with_reducible rfl
      try simp only [Act.put, List.setIfInBounds_toArray, List.set_cons_succ, List.set_cons_zero]
      refine plan_pure (v := ?_) rfl rfl (by simp [Region.wanted, yielded]) hS ?_ ?_
      rotate_left
      · intro w hw; go_simp; try with_reducible rfl
      try simp only [Act.put, List.setIfInBounds_toArray, List.set_cons_succ, List.set_cons_zero]
      refine plan_pure (v := ?_) rfl rfl (by simp [Region.wanted, yielded]) hS ?_ ?_
      rotate_left
      · intro w hw; go_simp; try with_reducible rfl
      try simp only [Act.put, List.setIfInBounds_toArray, List.set_cons_succ, List.set_cons_zero]
      refine plan_pure (v := ?_) rfl rfl (by simp [Region.wanted, yielded]) hS ?_ ?_
      rotate_left
      · intro w hw; have c0 := H20.out w hw; have c1 := H21.out w hw; clear hw; go_simp; try with_reducible rfl
      try simp only [Act.put, List.setIfInBounds_toArray, List.set_cons_succ, List.set_cons_zero]
      refine plan_pure (v := ?_) rfl rfl (by simp [Region.wanted, yielded]) hS ?_ ?_
      rotate_left
      · intro w hw; have c0 := H30.out w hw; have c1 := H31.out w hw; have c2 := H32.out w hw; clear hw; go_simp; try with_reducible rfl
      try simp only [Act.put, List.setIfInBounds_toArray, List.set_cons_succ, List.set_cons_zero]
      refine plan_eff1 rfl (by simp [Region.wanted, yielded]) fun K hK => ?_
      go_simp
      with_reducible refine (of_any k nl _ hk1 hk5).mono ?_
      rintro e w2 ⟨F, a, b, c, d, rfl, hF, hb3⟩
      refine held_go hK (by exact bon hS hb3) fun hS => ?_
      clear hK K
      try simp only [Act.put, List.setIfInBounds_toArray, List.set_cons_succ, List.set_cons_zero]
      obtain ⟨f, caps, rfl, hcall, hin⟩ := hF.calls (false, n, s) ((HT.out.on hb2.out).on hS)
      obtain ⟨I, hI⟩ : ∃ I, I = isC k (false, n, s) := ⟨_, rfl⟩
      rw [← hI] at hcall hE
      have HE := Lib.hid hE
      have hcall := show Calls Tryz.prog f (#[.agg #[.bool false, .int .i64 n, .string s]] ++ caps) w2 (fun e w' => e = .returned (.bool I) ∧ Below w2.heap.size w2 w') from hcall
      clear hE hI
      have HF := Lib.hid (show ∀ w', Below w1.heap.size w1 w' → (Instr.field 74 (.agg #[.func (.func f) #[] caps, a, b, c, d]) 0).run Tryz.prog w' = .ok (.func (.func f) #[] caps) w' from fun w' _ => by simp [Instr.field, asAgg, go_sem])
      refine plan_pure (v := ?_) rfl rfl (by simp [Region.wanted, yielded]) hS ?_ ?_
      rotate_left
      · intro w hw; have c0 := HF.out w hw; clear hw; go_simp; try with_reducible rfl
      try simp only [Act.put, List.setIfInBounds_toArray, List.set_cons_succ, List.set_cons_zero]
      refine plan_eff1 rfl (by simp [Region.wanted, yielded]) fun K hK => ?_
      go_simp
      with_reducible refine hcall.mono ?_
      rintro e w3 ⟨rfl, hb4⟩
      refine held_go hK (by exact bon hS hb4) fun hS => ?_
      clear hK K
      try simp only [Act.put, List.setIfInBounds_toArray, List.set_cons_succ, List.set_cons_zero]
      refine plan_pure (v := ?_) rfl rfl (by simp [Region.wanted, yielded]) hS ?_ ?_
      rotate_left
      · intro w hw; go_simp; try with_reducible rfl
      try simp only [Act.put, List.setIfInBounds_toArray, List.set_cons_succ, List.set_cons_zero]
      refine plan_pure (v := ?_) rfl rfl (by simp [Region.wanted, yielded]) hS ?_ ?_
      rotate_left
      · intro w hw; go_simp; try with_reducible rfl
      try simp only [Act.put, List.setIfInBounds_toArray, List.set_cons_succ, List.set_cons_zero]
      refine plan_pure (v := ?_) rfl rfl (by simp [Region.wanted, yielded]) hS ?_ ?_
      rotate_left
      · intro w hw; go_simp; try with_reducible rfl
      try simp only [Act.put, List.setIfInBounds_toArray, List.set_cons_succ, List.set_cons_zero]
      refine plan_end ?_
      have hb5 := bon hb2.out hS
      cases I with
      | true =>
        go_wp2
        go_ret
        exact ⟨by first | (rw [HE.out]; rfl) | rfl, hb5⟩
      | false =>
        go_wp2
        go_ret
        exact ⟨by first | (rw [HE.out]; rfl) | rfl, hb5⟩
end Go.Proofs.YtfgpbnfobpfacaaGreatDoor
/- Arguments opened: slices of structs of one-cell fields. -/
set_option linter.unusedVariables false
set_option linter.unusedSimpArgs false
namespace Go.Proofs.YtfgpbnfobpfacaaGreatDoor
open Go.RowKit Go.Deep Go.ChangeShapes Go.WideShapes
theorem flatMap_at {α β : Type} (f : α → List β) (s : Nat) (hs : ∀ a, (f a).length = s) : ∀ (l : List α) (k j : Nat) (a : α), l[k]? = some a → j < s → (l.flatMap f)[k * s + j]? = (f a)[j]? := by
  intro l
  induction l with
  | nil => intro k j a h _; simp at h
  | cons b l ih =>
    intro k j a h hj
    simp only [List.flatMap_cons]
    cases k with
    | zero =>
      simp only [List.getElem?_cons_zero, Option.some.injEq] at h
      subst h
      rw [Nat.zero_mul, Nat.zero_add, List.getElem?_append_left (by rw [hs]; exact hj)]
    | succ k =>
      simp only [List.getElem?_cons_succ] at h
      rw [List.getElem?_append_right (by rw [hs, Nat.succ_mul]; omega), hs, ← ih k j a h hj]
      congr 1
      rw [Nat.succ_mul]
      omega
theorem flatMap_length {α β : Type} (f : α → List β) (s : Nat) (hs : ∀ a, (f a).length = s) (l : List α) : (l.flatMap f).length = l.length * s := by
  induction l with
  | nil => simp
  | cons b l ih => rw [List.flatMap_cons, List.length_append, ih, hs, List.length_cons, Nat.succ_mul, Nat.add_comm]
section
variable {H : Type} {enc : TypeId × Value → H} {P : Program} {w : World} {held : Bool} {sp : Nat → Bool} {base : Nat}
/-- A struct whose fields are one cell each, cell by cell. -/
theorem struct_cells {ts : TypeId} {fs : Array Field} {fuel : Nat} {cs : List Value} {x : DataW H × List MemPlace} (hs : P.underlying ts = some (.struct fs)) (hone : oneCellFields P fs = true) (hC : P.cellsOf ts = fs.size)
    (h : DataW.trod enc P w base sp held fuel ts cs = some x) :
    ∃ n, cs.length = fs.size ∧ ∀ (i : Nat) (f : Field) (v : Value), fs[i]? = some f → cs[i]? = some v → ∃ y, DataW.trod enc P w base sp held n f.type [v] = some y := by
  obtain ⟨xs, n, _, rfl, hcl, hxl, hf⟩ := DataW.trod_struct hs h
  refine ⟨n, by rw [hcl, hC], fun i f v hi hv => ?_⟩
  obtain ⟨ho, hc1⟩ := hone_of hone i f hi
  have g := hf i f hi
  have hlt : i < fs.size := (Array.getElem?_eq_some_iff.1 hi).1
  have hci : i < cs.length := by rw [hcl, hC]; exact hlt
  rw [ho, hc1, take1_drop cs i v hci] at g
  have hg : cs.getD i v = v := by rw [List.getD_eq_getElem?_getD, hv]; rfl
  rw [hg, List.getElem?_eq_getElem (by omega)] at g
  exact ⟨_, g⟩
/-- A slice whose elements have size cells each. -/
theorem structs_of {α : Type} [Inhabited α] (size : Nat) (cells : α → List Value) (ok : α → Prop) (hpos : 0 < size) (hsz : ∀ a, (cells a).length = size) {t e : TypeId} {a : Option Addr} {len cap : Nat} {d : DataW H} {p : List MemPlace}
    (ht : P.underlying t = some (.slice e)) (hc : P.cellsOf e = size)
    (hel : ∀ n cs y, DataW.trod enc P w 0 (fun _ => true) held n e cs = some y → ∃ x, cs = cells x ∧ ok x)
    (h : DataW.Trod enc P w 0 (fun _ => true) held t (.slice a len cap) d p) :
    ∃ xs : List α, Reads w w.heap.size size a len (xs.flatMap cells) ∧ len ≤ cap ∧ cap ≤ maxLen ∧ ∀ x ∈ xs, ok x := by
  obtain ⟨fuel, hf⟩ := h
  rcases open_slice ht hf with ⟨hcs, _⟩ | ⟨ad, l, c, m, n, D, Pl, hcs, hb, hl, hm, hmm, _, hx⟩
  · simp [Value.cells] at hcs
    obtain ⟨rfl, rfl, rfl⟩ := hcs
    exact ⟨[], Reads.none_, Nat.le_refl _, by simp [maxLen], by simp⟩
  · simp [Value.cells] at hcs
    obtain ⟨rfl, rfl, rfl⟩ := hcs
    simp only [if_true] at hmm
    subst hmm
    rw [hc] at hx
    obtain ⟨X, hX⟩ := choose_lt (α := α) (p := fun i x => w.cells? 0 (ad.add (i * size)) size = some (cells x) ∧ ok x) (fun i hi => by
      obtain ⟨cs', h1, h2⟩ := hx i hi
      obtain ⟨x, rfl, h3⟩ := hel _ _ _ h2
      exact ⟨x, h1, h3⟩)
    have hcell : ∀ j u, ((List.range len).map X |>.flatMap cells)[j]? = some u → w.cell? (ad.add j) = some u := by
      intro j u hu
      have hjl : j < len * size := by
        have := (List.getElem?_eq_some_iff.1 hu).1
        rw [flatMap_length _ size hsz] at this
        simpa using this
      have hjd := Nat.div_add_mod j size
      have hdl : j / size < len := (Nat.div_lt_iff_lt_mul hpos).2 hjl
      obtain ⟨h1, _⟩ := hX (j / size) (by omega)
      obtain ⟨_, _, h3⟩ := World.cells?_some h1
      have h4 := h3 (j % size) (Nat.mod_lt _ hpos)
      rw [add_of_add, show j / size * size + j % size = j from by rw [Nat.mul_comm]; exact hjd] at h4
      rw [h4, ← hu]
      have h5 := flatMap_at cells size hsz ((List.range len).map X) (j / size) (j % size) (X (j / size)) (by rw [List.getElem?_map, List.getElem?_range hdl]; rfl) (Nat.mod_lt _ hpos)
      rw [show j / size * size + j % size = j from by rw [Nat.mul_comm]; exact hjd] at h5
      exact h5.symm
    refine ⟨(List.range len).map X, ⟨?_, fun hn => ⟨ad, rfl, ?_, hcell⟩⟩, hl, hm, fun x hx => ?_⟩
    · rw [flatMap_length _ size hsz]
      simp
    · obtain ⟨h1, _⟩ := hX 0 (by omega)
      obtain ⟨_, hl0, h3⟩ := World.cells?_some h1
      have h4 := h3 0 hpos
      rw [List.getElem?_eq_getElem (by omega)] at h4
      have := World.block_lt_of_cell? _ _ h4
      rwa [block_of_add, block_of_add] at this
    · obtain ⟨i, hi, rfl⟩ := List.mem_map.1 hx
      exact (hX i (by have := List.mem_range.1 hi; omega)).2
end
end Go.Proofs.YtfgpbnfobpfacaaGreatDoor
/- Bools as bits, in plain Lean; no program is in sight here. -/
set_option linter.unusedVariables false
set_option linter.unusedSimpArgs false
namespace Go.Proofs.YtfgpbnfobpfacaaGreatDoor

def need (n : Nat) : Nat := (n + 7) / 8
def byteOf : List Bool → Nat
  | [] => 0
  | b :: r => (if b then 1 else 0) + 2 * byteOf r
def packF : Nat → List Bool → List UInt8
  | 0, _ => []
  | f + 1, l => UInt8.ofNat (byteOf (l.take 8)) :: packF f (l.drop 8)
def packL (l : List Bool) : List UInt8 := packF (need l.length) l
def bitsOf : Nat → Nat → List Bool
  | 0, _ => []
  | k + 1, c => (c % 2 == 1) :: bitsOf k (c / 2)
def allBits (b : List UInt8) : List Bool := b.flatMap fun c => bitsOf 8 c.toNat
def countL (l : List Bool) : Nat := (l.filter id).length
def unpackN (b : List UInt8) (n : Nat) : List Bool × Nat × Nat :=
  if b.length < need n then ([], 0, 3)
  else if ((allBits (b.take (need n))).drop n).any id then ([], 0, 140)
  else ((allBits (b.take (need n))).take n, need n, 0)
def unpackL (b : List UInt8) (n : Int) : List Bool × Nat × Nat :=
  if n < 0 ∨ 1048576 < n then ([], 0, 6) else unpackN b n.toNat
def sizeL (n : Int) : Nat := if n < 0 ∨ 1048576 < n then 0 else need n.toNat

@[simp] theorem packF_length : ∀ (f : Nat) (l : List Bool), (packF f l).length = f
  | 0, _ => rfl
  | f + 1, l => by simp [packF, packF_length f]
theorem packL_length (l : List Bool) : (packL l).length = need l.length := packF_length _ _
@[simp] theorem bitsOf_length : ∀ (k c : Nat), (bitsOf k c).length = k
  | 0, _ => rfl
  | k + 1, c => by simp [bitsOf, bitsOf_length k]
theorem allBits_nil : allBits [] = [] := rfl
theorem allBits_cons (c : UInt8) (b : List UInt8) : allBits (c :: b) = bitsOf 8 c.toNat ++ allBits b := by simp [allBits]
@[simp] theorem allBits_length : ∀ b : List UInt8, (allBits b).length = 8 * b.length
  | [] => rfl
  | c :: b => by rw [allBits_cons, List.length_append, allBits_length b]; simp; omega

theorem byteOf_lt : ∀ l : List Bool, byteOf l < 2 ^ l.length
  | [] => by simp [byteOf]
  | b :: r => by
    have := byteOf_lt r
    simp only [byteOf, List.length_cons, Nat.pow_succ]
    split <;> omega
theorem byteOf_lt8 (l : List Bool) (h : l.length ≤ 8) : byteOf l < 256 :=
  Nat.lt_of_lt_of_le (byteOf_lt l) (by
    have : 2 ^ l.length ≤ 2 ^ 8 := Nat.pow_le_pow_right (by omega) h
    omega)
theorem byteOf_append : ∀ (l m : List Bool), byteOf (l ++ m) = byteOf l + 2 ^ l.length * byteOf m
  | [], m => by simp [byteOf]
  | b :: r, m => by
    simp only [List.cons_append, byteOf, byteOf_append r m, List.length_cons, Nat.pow_succ]
    rw [Nat.mul_add, Nat.add_assoc, Nat.mul_comm (2 ^ r.length) 2, ← Nat.mul_assoc]
theorem byteOf_falses : ∀ m : Nat, byteOf (List.replicate m false) = 0
  | 0 => rfl
  | m + 1 => by simp [List.replicate_succ, byteOf, byteOf_falses m]
theorem byteOf_pad (l : List Bool) (m : Nat) : byteOf (l ++ List.replicate m false) = byteOf l := by
  rw [byteOf_append, byteOf_falses]; omega
theorem byteOf_bits : ∀ (k c : Nat), c < 2 ^ k → byteOf (bitsOf k c) = c
  | 0, c, h => by simp at h; simp [bitsOf, byteOf, h]
  | k + 1, c, h => by
    rw [Nat.pow_succ] at h
    simp only [bitsOf, byteOf, byteOf_bits k (c / 2) (by omega)]
    by_cases h1 : c % 2 = 1 <;> simp [h1] <;> omega
theorem bits_byteOf : ∀ (l : List Bool) (m : Nat), bitsOf (l.length + m) (byteOf l) = l ++ List.replicate m false
  | [], m => by
    simp only [List.length_nil, Nat.zero_add, byteOf, List.nil_append]
    induction m with
    | zero => rfl
    | succ m ih => simp [bitsOf, List.replicate_succ, ih]
  | b :: r, m => by
    have e : (b :: r).length + m = (r.length + m) + 1 := by simp; omega
    rw [e]
    simp only [bitsOf, byteOf, List.cons_append]
    have h1 : ((if b = true then 1 else 0) + 2 * byteOf r) / 2 = byteOf r := by split <;> omega
    have h2 : (((if b = true then 1 else 0) + 2 * byteOf r) % 2 == 1) = b := by cases b <;> simp <;> omega
    rw [h1, h2, bits_byteOf r m]

theorem ofNat_toNat' (n : Nat) (h : n < 256) : (UInt8.ofNat n).toNat = n := by
  simp [Nat.mod_eq_of_lt h]

theorem allBits_packF : ∀ (f : Nat) (l : List Bool), allBits (packF f l) = l.take (8 * f) ++ List.replicate (8 * f - l.length) false
  | 0, l => by simp [packF, allBits_nil]
  | f + 1, l => by
    have hlt := byteOf_lt8 (l.take 8) (List.length_take_le _ _)
    rw [packF, allBits_cons, ofNat_toNat' _ hlt, allBits_packF f]
    have hb : bitsOf 8 (byteOf (l.take 8)) = l.take 8 ++ List.replicate (8 - (l.take 8).length) false := by
      have ht := List.length_take_le 8 l
      generalize l.take 8 = t at ht ⊢
      have := bits_byteOf t (8 - t.length)
      rwa [show t.length + (8 - t.length) = 8 from by omega] at this
    rw [hb]
    rcases Nat.le_total 8 l.length with h | h
    · have hz : 8 - (l.take 8).length = 0 := by rw [List.length_take]; omega
      rw [hz, List.replicate_zero, List.append_nil, ← List.append_assoc, List.length_drop]
      have e1 : l.take 8 ++ (l.drop 8).take (8 * f) = l.take (8 * (f + 1)) := by
        rw [show 8 * (f + 1) = 8 + 8 * f from by omega, List.take_add]
      rw [e1]
      congr 2
      omega
    · have hd : l.drop 8 = [] := List.drop_of_length_le h
      have ht : l.take 8 = l := List.take_of_length_le h
      have ht2 : l.take (8 * (f + 1)) = l := List.take_of_length_le (by omega)
      rw [hd, ht, ht2]
      simp only [List.take_nil, List.nil_append, List.length_nil, Nat.sub_zero, List.append_assoc, List.replicate_append_replicate]
      congr 2
      omega
theorem packF_allBits : ∀ b : List UInt8, packF b.length (allBits b) = b
  | [] => rfl
  | c :: b => by
    simp only [List.length_cons, packF, allBits_cons]
    rw [List.take_left' (by simp), List.drop_left' (by simp), packF_allBits b, byteOf_bits 8 c.toNat c.toNat_lt]
    simp
theorem packF_pad : ∀ (f : Nat) (l : List Bool) (m : Nat), packF f (l ++ List.replicate m false) = packF f l
  | 0, _, _ => rfl
  | f + 1, l, m => by
    simp only [packF, List.take_append, List.drop_append, List.take_replicate, List.drop_replicate]
    rw [byteOf_pad, packF_pad f]

theorem need_le (n : Nat) : n ≤ 8 * need n := by unfold need; omega

/-- What is packed is unpacked as it was, whatever stands behind. -/
theorem unpack_pack (l : List Bool) (r : List UInt8) : unpackN (packL l ++ r) l.length = (l, need l.length, 0) := by
  unfold unpackN
  have hlen := packL_length l
  rw [if_neg (by rw [List.length_append]; omega)]
  have ht : (packL l ++ r).take (need l.length) = packL l := by rw [← hlen]; exact List.take_left
  have hb : allBits (packL l) = l ++ List.replicate (8 * need l.length - l.length) false := by
    rw [packL, allBits_packF, List.take_of_length_le (need_le _)]
  rw [ht, hb, List.drop_left, List.take_left]
  rw [if_neg (by simp)]

theorem falses_of (l : List Bool) (h : l.any id = false) : l = List.replicate l.length false := by
  rw [List.eq_replicate_iff]
  refine ⟨rfl, fun b hb => ?_⟩
  have := List.any_eq_false.1 h b hb
  simpa using this

/-- What can be unpacked is packed to just those bytes. -/
theorem unpack_only (b : List UInt8) (n : Nat) : (∃ l, unpackN b n = (l, need n, 0) ∧ l.length = n ∧ need n ≤ b.length ∧ packL l = b.take (need n)) ∨ ∃ e, unpackN b n = ([], 0, e) ∧ e ≠ 0 ∧ e < 200 := by
  unfold unpackN
  by_cases h1 : b.length < need n
  · rw [if_pos h1]; exact .inr ⟨3, rfl, by omega, by omega⟩
  rw [if_neg h1]
  by_cases h2 : ((allBits (b.take (need n))).drop n).any id = true
  · rw [if_pos h2]; exact .inr ⟨140, rfl, by omega, by omega⟩
  rw [if_neg h2]
  have hl : (b.take (need n)).length = need n := by rw [List.length_take]; omega
  have hln : ((allBits (b.take (need n))).take n).length = n := by
    rw [List.length_take, allBits_length, hl]
    have := need_le n
    omega
  refine .inl ⟨_, rfl, hln, by omega, ?_⟩
  have hf := falses_of _ (by simpa using h2)
  have hall : allBits (b.take (need n)) = (allBits (b.take (need n))).take n ++ List.replicate ((allBits (b.take (need n))).drop n).length false := by
    conv => lhs; rw [← List.take_append_drop n (allBits (b.take (need n)))]
    rw [← hf]
  rw [packL, hln]
  have := packF_allBits (b.take (need n))
  rw [hl, hall, packF_pad] at this
  exact this

theorem packF_append : ∀ (f g : Nat) (a b : List Bool), a.length = 8 * f → packF (f + g) (a ++ b) = packF f a ++ packF g b
  | 0, g, a, b, h => by
    have : a = [] := List.eq_nil_of_length_eq_zero (by omega)
    subst this
    simp [packF]
  | f + 1, g, a, b, h => by
    rw [show f + 1 + g = (f + g) + 1 from by omega]
    simp only [packF, List.cons_append]
    rw [List.take_append_of_le_length (by omega), List.drop_append_of_le_length (by omega), packF_append f g (a.drop 8) b (by rw [List.length_drop]; omega)]
/-- Lists of which the first fills its bytes are packed as their bytes. -/
theorem packL_append (a b : List Bool) (h : a.length % 8 = 0) : packL (a ++ b) = packL a ++ packL b := by
  unfold packL
  have e : need (a ++ b).length = need a.length + need b.length := by rw [List.length_append]; unfold need; omega
  rw [e]
  exact packF_append _ _ a b (by unfold need; omega)
theorem countL_append (a b : List Bool) : countL (a ++ b) = countL a + countL b := by simp [countL]

theorem count_step (l : List Bool) (i : Nat) (b : Bool) (h : l[i]? = some b) : countL (l.take (i + 1)) = countL (l.take i) + if b then 1 else 0 := by
  obtain ⟨hlt, rfl⟩ := List.getElem?_eq_some_iff.1 h
  rw [List.take_succ_eq_append_getElem hlt, countL_append]
  congr 1
  cases hb : l[i] <;> simp [countL]
theorem countL_le (l : List Bool) : countL l ≤ l.length := List.length_filter_le _ _
/-- Byte j. -/
theorem packF_get : ∀ (f : Nat) (l : List Bool) (j : Nat), j < f → (packF f l)[j]? = some (UInt8.ofNat (byteOf ((l.drop (8 * j)).take 8)))
  | f + 1, l, 0, _ => by simp [packF]
  | f + 1, l, j + 1, h => by
    simp only [packF, List.getElem?_cons_succ]
    rw [packF_get f (l.drop 8) j (by omega), List.drop_drop]
    congr 5
    omega

/-- The bits of byte j of which i have been written. -/
def chunk (l : List Bool) (i j : Nat) : List Bool := ((l.take i).drop (8 * j)).take 8
theorem chunk_other (l : List Bool) (i j : Nat) (h : j ≠ i / 8) : chunk l (i + 1) j = chunk l i j := by
  unfold chunk
  rcases Nat.lt_or_ge j (i / 8) with hlt | hge
  · rw [List.drop_take, List.drop_take, List.take_take, List.take_take]
    congr 1
    omega
  · have h1 : (l.take (i + 1)).drop (8 * j) = [] := List.drop_of_length_le (by have := List.length_take_le (i + 1) l; omega)
    have h2 : (l.take i).drop (8 * j) = [] := List.drop_of_length_le (by have := List.length_take_le i l; omega)
    rw [h1, h2]
theorem chunk_here (l : List Bool) (i : Nat) (b : Bool) (h : l[i]? = some b) : chunk l (i + 1) (i / 8) = chunk l i (i / 8) ++ [b] ∧ (chunk l i (i / 8)).length = i % 8 := by
  obtain ⟨hlt, rfl⟩ := List.getElem?_eq_some_iff.1 h
  unfold chunk
  have hli : (l.take i).length = i := by rw [List.length_take]; omega
  have hle : 8 * (i / 8) ≤ i := by omega
  constructor
  · rw [List.take_succ_eq_append_getElem hlt, List.drop_append_of_le_length (by omega)]
    have h1 : ((l.take i).drop (8 * (i / 8))).length ≤ 7 := by rw [List.length_drop, hli]; omega
    generalize (l.take i).drop (8 * (i / 8)) = t at h1 ⊢
    rw [List.take_of_length_le (l := t ++ [l[i]]) (by simp; omega), List.take_of_length_le (l := t) (by omega)]
  · rw [List.length_take, List.length_drop, hli]; omega
theorem packF_step (f : Nat) (l : List Bool) (i : Nat) (b : Bool) (h : l[i]? = some b) (hf : i / 8 < f) :
    packF f (l.take (i + 1)) = (packF f (l.take i)).set (i / 8) (UInt8.ofNat (byteOf (chunk l i (i / 8)) + if b then 2 ^ (i % 8) else 0)) ∧ byteOf (chunk l i (i / 8)) < 2 ^ (i % 8) ∧
      (packF f (l.take i))[i / 8]? = some (UInt8.ofNat (byteOf (chunk l i (i / 8)))) := by
  obtain ⟨h1, h2⟩ := chunk_here l i b h
  have hlt := byteOf_lt (chunk l i (i / 8))
  rw [h2] at hlt
  refine ⟨?_, hlt, packF_get f _ _ hf⟩
  apply List.ext_getElem?
  intro j
  rcases Nat.lt_or_ge j f with hj | hj
  · rw [packF_get f _ j hj]
    by_cases hji : j = i / 8
    · subst hji
      rw [List.getElem?_set_self (by simpa using hf)]
      show some (UInt8.ofNat (byteOf (chunk l (i + 1) (i / 8)))) = _
      rw [h1, byteOf_append, h2]
      cases b <;> simp [byteOf]
    · rw [List.getElem?_set_ne (by omega), packF_get f _ j hj]
      show some (UInt8.ofNat (byteOf (chunk l (i + 1) j))) = some (UInt8.ofNat (byteOf (chunk l i j)))
      rw [chunk_other l i j hji]
  · rw [List.getElem?_eq_none (by simpa using hj), List.getElem?_eq_none (by simpa using hj)]
theorem packF_false (f : Nat) (l : List Bool) (i : Nat) (h : l[i]? = some false) (hf : i / 8 < f) : packF f (l.take (i + 1)) = packF f (l.take i) := by
  obtain ⟨h1, _, h3⟩ := packF_step f l i false h hf
  rw [h1]
  simp only [Bool.false_eq_true, if_false, Nat.add_zero]
  obtain ⟨hlt, h4⟩ := List.getElem?_eq_some_iff.1 h3
  rw [← h4, List.set_getElem_self]
theorem packF_none (f : Nat) (l : List Bool) : packF f (l.take 0) = List.replicate f 0 := by
  rw [List.take_zero]
  induction f with
  | zero => rfl
  | succ f ih => simp only [packF, List.take_nil, List.drop_nil, List.replicate_succ, ih]; rfl
theorem packF_more (f : Nat) (l : List Bool) (h : l.length ≤ 8 * f) : packF (f + 1) l = packF f l ++ [0] := by
  induction f generalizing l with
  | zero =>
    have : l = [] := List.eq_nil_of_length_eq_zero (by omega)
    subst this
    rfl
  | succ f ih =>
    rw [packF, ih (l.drop 8) (by rw [List.length_drop]; omega)]
    rfl
theorem bitsOf_get : ∀ (n c k : Nat), k < n → (bitsOf n c)[k]? = some (c / 2 ^ k % 2 == 1)
  | n + 1, c, 0, _ => by simp [bitsOf]
  | n + 1, c, k + 1, h => by
    simp only [bitsOf, List.getElem?_cons_succ]
    rw [bitsOf_get n (c / 2) k (by omega), Nat.div_div_eq_div_mul, Nat.pow_succ, Nat.mul_comm 2]
theorem allBits_get : ∀ (xs : List UInt8) (i k : Nat) (b : UInt8), xs[i]? = some b → k < 8 → (allBits xs)[8 * i + k]? = some (b.toNat / 2 ^ k % 2 == 1)
  | c :: xs, 0, k, b, h, hk => by
    obtain rfl : c = b := by simpa using h
    rw [allBits_cons, List.getElem?_append_left (by simp; omega), Nat.mul_zero, Nat.zero_add]
    exact bitsOf_get 8 _ k hk
  | c :: xs, i + 1, k, b, h, hk => by
    rw [allBits_cons, List.getElem?_append_right (by simp; omega)]
    have := allBits_get xs i k b (by simpa using h) hk
    rw [← this]
    congr 1
    simp
    omega
theorem allBits_take : ∀ (xs : List UInt8) (s : Nat), allBits (xs.take s) = (allBits xs).take (8 * s)
  | [], s => by simp [allBits_nil]
  | c :: xs, 0 => by simp [allBits_nil]
  | c :: xs, s + 1 => by
    rw [List.take_succ_cons, allBits_cons, allBits_cons, allBits_take xs s]
    conv => rhs; rw [List.take_append, List.take_of_length_le (l := bitsOf 8 c.toNat) (by simp; omega)]
    rw [show 8 * (s + 1) - (bitsOf 8 c.toNat).length = 8 * s by simp; omega]
/-- No bit from m on is 1, up to place t. -/
def Clear (xs : List UInt8) (m t : Nat) : Prop := (((allBits xs).take t).drop m).any id = false
theorem clear_low (xs : List UInt8) (m t : Nat) (h : t ≤ m) : Clear xs m t := by
  unfold Clear
  rw [List.drop_of_length_le (by have := List.length_take_le t (allBits xs); omega)]
  rfl
theorem clear_next (xs : List UInt8) (m t : Nat) (h : Clear xs m t) (hb : (allBits xs)[t]? = some false) : Clear xs m (t + 1) := by
  obtain ⟨hlt, hb⟩ := List.getElem?_eq_some_iff.1 hb
  unfold Clear at *
  rw [List.take_succ_eq_append_getElem hlt, hb, List.drop_append, List.any_append, h]
  generalize m - ((allBits xs).take t).length = d
  cases d <;> simp
theorem unpack_bad (xs : List UInt8) (m t : Nat) (hs : need m ≤ xs.length) (ht : m ≤ t) (ht2 : t < 8 * need m) (hb : (allBits xs)[t]? = some true) : unpackN xs m = ([], 0, 140) := by
  unfold unpackN
  rw [if_neg (by omega), if_pos]
  rw [allBits_take, List.any_eq_true]
  refine ⟨true, ?_, rfl⟩
  obtain ⟨hlt, hb⟩ := List.getElem?_eq_some_iff.1 hb
  refine List.mem_iff_getElem?.2 ⟨t - m, ?_⟩
  rw [List.getElem?_drop, List.getElem?_take, if_pos (by omega), show m + (t - m) = t by omega, List.getElem?_eq_getElem hlt, hb]
theorem unpack_good (xs : List UInt8) (m : Nat) (hs : need m ≤ xs.length) (h : Clear xs m (8 * need m)) : unpackN xs m = ((allBits xs).take m, need m, 0) := by
  unfold unpackN
  unfold Clear at h
  rw [if_neg (by omega), allBits_take, if_neg (by simp [h]), List.take_take]
  congr 2
  have := need_le m
  omega
theorem take_next (l : List Bool) (t : Nat) (b : Bool) (h : l[t]? = some b) : l.take (t + 1) = l.take t ++ [b] := by
  obtain ⟨hlt, rfl⟩ := List.getElem?_eq_some_iff.1 h
  exact List.take_succ_eq_append_getElem hlt
theorem countL_any (l : List Bool) : 0 < countL l ↔ l.any id = true := by
  unfold countL
  rw [List.length_pos_iff_exists_mem, List.any_eq_true]
  simp [List.mem_filter]
theorem unpack_ref (xs : List UInt8) (m : Nat) (hs : need m ≤ xs.length) :
    unpackN xs m = if 0 < countL (((allBits xs).take (8 * need m)).drop m) then ([], 0, 140) else ((allBits xs).take m, need m, 0) := by
  unfold unpackN
  rw [if_neg (by omega), allBits_take]
  by_cases h : (((allBits xs).take (8 * need m)).drop m).any id = true
  · rw [if_pos h, if_pos ((countL_any _).2 h)]
  · rw [if_neg h, if_neg (fun h2 => h ((countL_any _).1 h2)), List.take_take]
    congr 2
    have := need_le m
    omega
theorem unpackL_only (b : List UInt8) (n : Int) : (∃ l k, unpackL b n = (l, k, 0) ∧ (l.length : Int) = n ∧ k ≤ b.length ∧ packL l = b.take k) ∨ ∃ e, unpackL b n = ([], 0, e) ∧ e ≠ 0 ∧ e < 200 := by
  unfold unpackL
  by_cases h : n < 0 ∨ 1048576 < n
  · rw [if_pos h]; exact .inr ⟨6, rfl, by omega, by omega⟩
  · rw [if_neg h]
    rcases unpack_only b n.toNat with ⟨l, h1, h2, h3, h4⟩ | h1
    · exact .inl ⟨l, _, h1, by omega, h3, h4⟩
    · exact .inr h1
theorem unpackL_pack (l : List Bool) (r : List UInt8) (h : l.length ≤ 1048576) : unpackL (packL l ++ r) (l.length : Int) = (l, need l.length, 0) := by
  unfold unpackL
  rw [if_neg (by omega), Int.toNat_natCast, unpack_pack]
end Go.Proofs.YtfgpbnfobpfacaaGreatDoor
/- Layer 14, walked: each function's contract. -/
set_option linter.unusedVariables false
set_option linter.unusedSimpArgs false
namespace Go.Proofs.YtfgpbnfobpfacaaGreatDoor
open Go.RowKit
theorem bool_info : (Tryz.prog.info? 4).map (fun i => (i.zero, i.size, i.bytes)) = some (some (.bool false), 1, 1) := by kernel_rfl

theorem need_cast (n : Nat) : ((n : Int) + 8 - 1) / 8 = ((need n : Nat) : Int) := by unfold need; omega
set_option maxRecDepth 100000 in
set_option maxHeartbeats 400000 in
theorem need_any (n : Nat) (w : World) (hn : n ≤ 4611686018427387904) :
    Calls Tryz.prog 42 #[.int .i64 (n : Int)] w fun e w' => e = .returned (.int .i64 ((need n : Nat) : Int)) ∧ w = w' := by
  go_enter Tryz.func42, Tryz.ntmps42
  go_wp2
  go_ret
  exact ⟨by rw [← need_cast]; rfl, rfl⟩

set_option maxRecDepth 100000 in
set_option maxHeartbeats 400000 in
theorem msize_any (n : Int) (w : World) (h1 : -9223372036854775808 ≤ n) (h2 : n ≤ 9223372036854775807) :
    Calls Tryz.prog 101 #[.int .i64 n] w fun e w' => e = .returned (.int .i64 ((sizeL n : Nat) : Int)) ∧ w = w' := by
  by_cases h : n < 0 ∨ 1048576 < n
  · have hs : sizeL n = 0 := by unfold sizeL; rw [if_pos h]
    rw [hs]
    rcases h with h | h
    all_goals
      go_enter Tryz.func101, Tryz.ntmps101
      go_wp2
      go_ret
      exact ⟨rfl, rfl⟩
  · have hs : sizeL n = need n.toNat := by unfold sizeL; rw [if_neg h]
    rw [hs]
    obtain ⟨m, rfl⟩ := Int.eq_ofNat_of_zero_le (by omega : 0 ≤ n)
    rw [Int.toNat_natCast]
    clear hs h1 h2
    have hm : m ≤ 1048576 := by omega
    clear h
    go_enter Tryz.func101, Tryz.ntmps101
    go_wp2_with fail
    with_reducible refine (need_any m _ (by omega)).mono ?_
    rintro e w' ⟨rfl, rfl⟩
    go_wp2
    go_ret
    exact ⟨rfl, rfl⟩
set_option maxRecDepth 100000 in
set_option maxHeartbeats 400000 in
theorem refmsize_any (n : Int) (w : World) (h1 : -9223372036854775808 ≤ n) (h2 : n ≤ 9223372036854775807) :
    Calls Tryz.prog 66 #[.int .i64 n] w fun e w' => e = .returned (.int .i64 ((sizeL n : Nat) : Int)) ∧ w = w' := by
  by_cases h : n < 0 ∨ 1048576 < n
  · have hs : sizeL n = 0 := by unfold sizeL; rw [if_pos h]
    rw [hs]
    rcases h with h | h
    all_goals
      go_enter Tryz.func66, Tryz.ntmps66
      go_wp2
      go_ret
      exact ⟨rfl, rfl⟩
  · have hs : sizeL n = need n.toNat := by unfold sizeL; rw [if_neg h]
    rw [hs]
    obtain ⟨m, rfl⟩ := Int.eq_ofNat_of_zero_le (by omega : 0 ≤ n)
    rw [Int.toNat_natCast]
    clear hs h1 h2
    have hm : m ≤ 1048576 := by omega
    clear h
    have hc : ((m : Int) + 7) / 8 = ((need m : Nat) : Int) := by unfold need; omega
    have Hc := Lib.hid hc
    clear hc
    go_enter Tryz.func66, Tryz.ntmps66
    go_wp2
    go_ret
    exact ⟨by rw [← Hc.out]; rfl, rfl⟩

/-- How a byte of bits takes in one more. -/
theorem bit_or (x s : Nat) (hx : x < 2 ^ s) (hs : s < 8) : bits .or .u8 (x : Int) (2 ^ s) = ((x + 2 ^ s : Nat) : Int) := by
  have h2 : (2 : Nat) ^ s ≤ 2 ^ 7 := Nat.pow_le_pow_right (by omega) (by omega)
  have e : ((2 : Int) ^ s) = ((2 ^ s : Nat) : Int) := by rw [Int.natCast_pow]; rfl
  rw [e, u8_or_nat _ _ (by omega) (by omega)]
  have := nat_join s (2 ^ s) x (Nat.mod_self _) hx
  rw [Nat.or_comm, this, Nat.add_comm]

set_option maxRecDepth 100000 in
set_option maxHeartbeats 1000000 in
theorem mpack_any (A : Option Addr) (l c : Nat) (xs : List Bool) (w : World) (hr : Reads w w.heap.size 1 A l (bls xs)) (hl : l ≤ c) (hc : c ≤ maxLen) (hb : l ≤ 1099511627776) :
    Calls Tryz.prog 21 #[.slice A l c] w fun e w' => ∃ A' c', e = .returned (.slice A' (packL xs).length c') ∧ (packL xs).length ≤ c' ∧ c' ≤ maxLen ∧
      w'.ownsRow w.heap.size 5 1 (.slice A' (packL xs).length c') (packL xs).length (u8s (packL xs)) ∧ Below w.heap.size w w' := by
  obtain ⟨i0, hi0, hz0, hz1, hz2⟩ := info_parts u8_info
  unfold maxLen at hc
  have hlen := blen hr
  have Hlen := Lib.hid hlen
  have hN : need l ≤ 1099511627776 := by unfold need; omega
  have hmk := fun W : World => run_make (P := Tryz.prog) W 22 5 i0 (.int .u8 0) Tryz.underlying22 hi0 hz0 .i64 .i64 ((need l : Nat) : Int) ((need l : Nat) : Int) (by omega) (by omega) (by rw [hz2]; omega) (by omega)
  simp only [Int.toNat_natCast, hz1, Nat.mul_one] at hmk
  clear hlen
  go_enter Tryz.func21, Tryz.ntmps21
  go_wp2_with fail
  with_reducible refine (need_any l _ (by omega)).mono ?_
  rintro e w' ⟨rfl, rfl⟩
  go_wp2
  go_loopw [12] (fun v wr => ∃ i : Nat, i ≤ l ∧ v = .int .i64 (i : Int) ∧ Blk wr w.heap.size 5 (u8s (packF (need l) (xs.take i))).toArray ∧ Below w.heap.size w wr) (fun v _ => l - (intOf v).toNat)
  case atStart =>
    refine ⟨0, Nat.zero_le _, rfl, ?_, (Below.refl _ _).alloc (Nat.le_refl _) _⟩
    have e : madeCells #[Value.int .u8 0] (need l) = (u8s (packF (need l) (xs.take 0))).toArray := by
      apply Array.ext'
      rw [toList_madeCells_one, packF_none]
      simp [u8s]
    rw [← e]
    exact Blk.new _ _ _
  case round =>
    obtain ⟨i, hi, rfl, hblk, hB⟩ := hrel
    by_cases hlt : i < l
    · obtain ⟨ad, v, rfl, hbk, hx, hcell⟩ := hr.at_ hlt
      rw [← hB.cell (p := ad.add i) (by rw [block_of_add]; exact hbk)] at hcell
      obtain ⟨b, hb', rfl⟩ := bls_get _ _ _ hx
      have hf : i / 8 < need l := by unfold need; omega
      clear hx hbk
      cases b with
      | false =>
        have hs := Lib.hid (packF_false (need l) xs i hb' hf)
        clear hb'
        go_wp2
        go_roundw
        case rel => exact ⟨i + 1, by omega, by go_num, by rw [hs.out]; exact hblk, hB⟩
        case measure => simp [intOf]; omega
      | true =>
        obtain ⟨s1, s2, s3⟩ := packF_step (need l) xs i true hb' hf
        generalize byteOf (chunk xs i (i / 8)) = x at s1 s2 s3
        have hx8 : x < 256 := by
          have : 2 ^ (i % 8) ≤ 2 ^ 8 := Nat.pow_le_pow_right (by omega) (by omega)
          omega
        have hold : wr.cell? ⟨w.heap.size, i / 8, none⟩ = some (.int .u8 (x : Int)) := by
          rw [hblk.cell]
          simp [u8s, s3, Nat.mod_eq_of_lt hx8]
        have hfz := hblk.frozen (i / 8)
        have S1 := Lib.hid s1
        have S2 := Lib.hid s2
        clear s1 s2 s3 hb'
        go_wp2
        go_region
        have hv : bits .or .u8 (x : Int) ((2 : Int) ^ (i % 8) % 256) = ((UInt8.ofNat (x + 2 ^ (i % 8))).toNat : Int) := by
          have h2 : (2 : Nat) ^ (i % 8) ≤ 2 ^ 7 := Nat.pow_le_pow_right (by omega) (by omega)
          have e : ((2 : Int) ^ (i % 8)) % 256 = (2 : Int) ^ (i % 8) := by
            have e : ((2 : Int) ^ (i % 8)) = ((2 ^ (i % 8) : Nat) : Int) := by rw [Int.natCast_pow]; rfl
            rw [e]
            generalize 2 ^ (i % 8) = q at h2 ⊢
            omega
          have := S2.out
          rw [e, bit_or x (i % 8) S2.out (by omega), ofNat_toNat' _ (by omega)]
        rw [hv]
        have hblk2 := (hblk.set_ (i / 8) (.int .u8 ((UInt8.ofNat (x + 2 ^ (i % 8))).toNat : Int))).drew
        have hB2 := (bset (p := ⟨w.heap.size, i / 8, none⟩) hB (Nat.le_refl _) (.int .u8 ((UInt8.ofNat (x + 2 ^ (i % 8))).toNat : Int))).drew
        have hs1 := S1.out
        rw [if_pos trivial] at hs1
        rw [List.setIfInBounds_toArray, u8s_set, ← hs1] at hblk2
        clear hs1 hblk hB
        go_wp2
        go_roundw
        case rel => exact ⟨i + 1, by omega, by go_num, hblk2, hB2⟩
        case measure => simp [intOf]; omega
    · go_wp2
      go_ret
      have hil : xs.take i = xs := List.take_of_length_le (by rw [Hlen.out]; omega)
      rw [hil] at hblk
      have hpl : (packL xs).length = need l := by rw [packL_length, Hlen.out]
      have hpe : packF (need l) xs = packL xs := by rw [packL, Hlen.out]
      rw [hpl]
      rw [hpe] at hblk
      exact ⟨some ⟨w.heap.size, 0, none⟩, need l, rfl, Nat.le_refl _, by simp only [maxLen]; omega, hblk.own (Nat.le_refl _) rfl (by simp [hpl]) (by simp only [maxLen]; omega), hB⟩

set_option maxRecDepth 100000 in
set_option maxHeartbeats 1000000 in
theorem mcount_any (A : Option Addr) (l c : Nat) (xs : List Bool) (w : World) (hr : Reads w w.heap.size 1 A l (bls xs)) (hl : l ≤ c) (hc : c ≤ maxLen) :
    Calls Tryz.prog 36 #[.slice A l c] w fun e w' => e = .returned (.int .i64 ((countL xs : Nat) : Int)) ∧ w = w' := by
  unfold maxLen at hc
  have Hlen := Lib.hid (blen hr)
  go_enter Tryz.func36, Tryz.ntmps36
  go_wp2
  go_loop [2, 7] (fun u v => ∃ i k : Nat, i ≤ l ∧ v = .int .i64 (i : Int) ∧ u = .int .i64 (k : Int) ∧ k ≤ i ∧ Hid (k = countL (xs.take i))) (fun _ v => l - (intOf v).toNat)
  case atStart => exact ⟨0, 0, Nat.zero_le _, rfl, rfl, Nat.le_refl _, by show 0 = countL (xs.take 0); simp [countL]⟩
  case round =>
    obtain ⟨i, k, hi, rfl, rfl, hk, Hk⟩ := hrel
    by_cases hlt : i < l
    · obtain ⟨ad, v, rfl, hbk, hx, hcell⟩ := hr.at_ hlt
      obtain ⟨b, hb', rfl⟩ := bls_get _ _ _ hx
      have hs := count_step xs i b hb'
      rw [← Hk.out] at hs
      have Hs := Lib.hid hs
      clear hx hb' hs hbk
      cases b
      · go_wp2
        go_round
        case rel => exact ⟨i + 1, k, by omega, by go_num, rfl, by omega, by show _ = _; rw [Hs.out]; simp⟩
        case measure => simp [intOf]; omega
      · go_wp2
        go_round
        case rel => exact ⟨i + 1, k + 1, by omega, by go_num, by go_num, by omega, by show _ = _; rw [Hs.out]; simp⟩
        case measure => simp [intOf]; omega
    · go_wp2
      go_ret
      have hil : xs.take i = xs := List.take_of_length_le (by rw [Hlen.out]; omega)
      exact ⟨by have := Hk.out; rw [hil] at this; rw [← this]; rfl, rfl⟩
set_option maxRecDepth 100000 in
set_option maxHeartbeats 1000000 in
theorem refmcount_any (A : Option Addr) (l c : Nat) (xs : List Bool) (w : World) (hr : Reads w w.heap.size 1 A l (bls xs)) (hl : l ≤ c) (hc : c ≤ maxLen) :
    Calls Tryz.prog 40 #[.slice A l c] w fun e w' => e = .returned (.int .i64 ((countL xs : Nat) : Int)) ∧ w = w' := by
  unfold maxLen at hc
  have Hlen := Lib.hid (blen hr)
  go_enter Tryz.func40, Tryz.ntmps40
  go_wp2
  go_loop [3, 4] (fun u v => ∃ i k : Nat, i ≤ l ∧ v = .int .i64 (i : Int) ∧ u = .int .i64 (k : Int) ∧ k ≤ i ∧ Hid (k = countL (xs.take i))) (fun _ v => l - (intOf v).toNat)
  case atStart => exact ⟨0, 0, Nat.zero_le _, rfl, rfl, Nat.le_refl _, by show 0 = countL (xs.take 0); simp [countL]⟩
  case round =>
    obtain ⟨i, k, hi, rfl, rfl, hk, Hk⟩ := hrel
    by_cases hlt : i < l
    · obtain ⟨ad, v, rfl, hbk, hx, hcell⟩ := hr.at_ hlt
      obtain ⟨b, hb', rfl⟩ := bls_get _ _ _ hx
      have hs := count_step xs i b hb'
      rw [← Hk.out] at hs
      have Hs := Lib.hid hs
      clear hx hb' hs hbk
      cases b
      · go_wp2
        go_round
        case rel => exact ⟨i + 1, k, by omega, by go_num, rfl, by omega, by show _ = _; rw [Hs.out]; simp⟩
        case measure => simp [intOf]; omega
      · go_wp2
        go_round
        case rel => exact ⟨i + 1, k + 1, by omega, by go_num, by go_num, by omega, by show _ = _; rw [Hs.out]; simp⟩
        case measure => simp [intOf]; omega
    · go_wp2
      go_ret
      have hil : xs.take i = xs := List.take_of_length_le (by rw [Hlen.out]; omega)
      exact ⟨by have := Hk.out; rw [hil] at this; rw [← this]; rfl, rfl⟩
/-- What the law's cut keeps. -/
def cut300 (xs : List Bool) : List Bool := xs.take 300
theorem cut300_le (xs : List Bool) : (cut300 xs).length ≤ 300 := List.length_take_le _ _
end Go.Proofs.YtfgpbnfobpfacaaGreatDoor
/- Layer 14, walked: the reference's Pack, and both Unpack. -/
set_option linter.unusedVariables false
set_option linter.unusedSimpArgs false
namespace Go.Proofs.YtfgpbnfobpfacaaGreatDoor
open Go.RowKit

theorem need_zero (i : Nat) (h : i % 8 = 0) : need (i + 1) = need i + 1 := by unfold need; omega
theorem need_same (i : Nat) (h : i % 8 ≠ 0) : need (i + 1) = need i := by unfold need; omega
/-- What a walk wants of the row while a bool is packed. -/
theorem pack_facts {W : World} {base c : Nat} {A : Option Addr} (xs : List Bool) (i : Nat) (b : Bool) (hb : xs[i]? = some b)
    (h : W.ownsRow base 5 1 (.slice A (need (i + 1)) c) (need (i + 1)) (u8s (packF (need (i + 1)) (xs.take i)))) :
    ∃ g x : Nat, A = some ⟨g, 0, none⟩ ∧ i / 8 < need (i + 1) ∧ base ≤ g ∧ g < W.heap.size ∧ x < 2 ^ (i % 8) ∧ x < 128 ∧ W.cell? ⟨g, i / 8, none⟩ = some (.int .u8 (x : Int)) ∧ W.frozen? ⟨g, i / 8, none⟩ = false ∧
      (b = true → (W.setCell ⟨g, i / 8, none⟩ (.int .u8 ((x + 2 ^ (i % 8) : Nat) : Int))).ownsRow base 5 1 (.slice A (need (i + 1)) c) (need (i + 1)) (u8s (packF (need (i + 1)) (xs.take (i + 1))))) ∧
      (b = false → packF (need (i + 1)) (xs.take (i + 1)) = packF (need (i + 1)) (xs.take i)) := by
  have hf : i / 8 < need (i + 1) := by unfold need; omega
  obtain ⟨g, rfl, h1, h1b, h2, h3⟩ := own_at h (by omega)
  obtain ⟨s1, s2, s3⟩ := packF_step (need (i + 1)) xs i b hb hf
  generalize byteOf (chunk xs i (i / 8)) = x at s1 s2 s3
  have hp : (2 : Nat) ^ (i % 8) ≤ 2 ^ 7 := Nat.pow_le_pow_right (by omega) (by omega)
  refine ⟨g, x, rfl, hf, h1, h1b, s2, by omega, h2 _ _ ?_, h3 _, fun hbt => ?_, fun hbf => ?_⟩
  · simp [u8s, s3, Nat.mod_eq_of_lt (by omega : x < 256)]
  · have := own_set h (i / 8) hf (.int .u8 ((UInt8.ofNat (x + 2 ^ (i % 8))).toNat : Int))
    rw [ofNat_toNat' _ (by omega)] at this
    rw [s1, if_pos hbt, ← u8s_set, ofNat_toNat' _ (by omega)]
    exact this
  · subst hbf
    exact packF_false _ _ _ hb hf
theorem pow8_le (i : Nat) : 2 ^ (i % 8) ≤ 128 := by
  have hp : (2 : Nat) ^ (i % 8) ≤ 2 ^ 7 := Nat.pow_le_pow_right (by omega) (by omega)
  omega
theorem pow8_next (i : Nat) (h : (i + 1) % 8 ≠ 0) : 2 * 2 ^ (i % 8) = 2 ^ ((i + 1) % 8) := by
  have : (i + 1) % 8 = i % 8 + 1 := by omega
  rw [this, Nat.pow_succ]; omega

set_option maxRecDepth 100000 in
set_option maxHeartbeats 1000000 in
theorem refmpack_any (A : Option Addr) (l c : Nat) (xs : List Bool) (w : World) (hr : Reads w w.heap.size 1 A l (bls xs)) (hl : l ≤ c) (hc : c ≤ maxLen) (hb : l ≤ 1099511627776) :
    Calls Tryz.prog 31 #[.slice A l c] w fun e w' => ∃ A' c', e = .returned (.slice A' (packL xs).length c') ∧ (packL xs).length ≤ c' ∧ c' ≤ maxLen ∧
      w'.ownsRow w.heap.size 5 1 (.slice A' (packL xs).length c') (packL xs).length (u8s (packL xs)) ∧ Below w.heap.size w w' := by
  obtain ⟨i0, hi0, hz0, hz1, hz2⟩ := info_parts u8_info
  unfold maxLen at hc
  have Hlen := Lib.hid (blen hr)
  have hN : need l ≤ 1099511627776 := by unfold need; omega
  go_enter Tryz.func31, Tryz.ntmps31
  go_wp2
  go_loopw [3, 4, 5] (fun o v u wr => ∃ (i p : Nat) (A1 : Option Addr) (c1 : Nat), i ≤ l ∧ u = .int .i64 (i : Int) ∧ v = .int .u8 (p : Int) ∧ p < 256 ∧ Hid (i % 8 ≠ 0 → p = 2 ^ (i % 8)) ∧ o = .slice A1 (need i) c1 ∧
    wr.ownsRow w.heap.size 5 1 (.slice A1 (need i) c1) (need i) (u8s (packF (need i) (xs.take i))) ∧ Below w.heap.size w wr) (fun _ _ u _ => l - (intOf u).toNat)
  case atStart => exact ⟨0, 1, none, 0, Nat.zero_le _, rfl, rfl, by omega, fun h => absurd rfl h, rfl, World.ownsRow_nil _ _ _ _, Below.refl _ _⟩
  case round =>
    obtain ⟨i, p, A1, c1, hi, rfl, rfl, hp, Hp, rfl, hown, hB⟩ := hrel
    by_cases hlt : i < l
    · obtain ⟨ad, v, rfl, hbk, hx, hcell⟩ := hr.at_ hlt
      rw [← hB.cell (p := ad.add i) (by rw [block_of_add]; exact hbk)] at hcell
      obtain ⟨b, hb', rfl⟩ := bls_get _ _ _ hx
      have hbase := hB.size
      clear hx
      by_cases h8 : i % 8 = 0
      · have ht : (((i : Int) % 8) == 0) = true := by simp; omega
        have hnl : need i ≤ need l := by unfold need; omega
        have hs1 : need i + 1 ≤ maxLen := by simp only [maxLen]; omega
        have hs2 : (need i + 1) * 1 ≤ 70368744177664 := by omega
        have H8 := Lib.hid h8
        clear h8
        cases b
        all_goals
          go_wp2_with (at_builtin
                       refine wpList_append_any _ rfl (.tmp 15) (.tmp 16) 22 rfl w.heap.size 5 i0 (.int .u8 0) 1 1 Tryz.underlying22 hi0 hz0 hz1 hz2 rfl (by decide) A1 _ c1 _ rfl (hown.alloc _) _ 1 1 _ rfl (reads_new _ _ _) (one_int _ _) hs1 hs2 (by simp; omega) ?_
                       intro A2 c2 w2 hown2 hb2 hg2 hc2 hm2
                       have hB2 := (hB.alloc hbase _).trans hb2
                       have hcell2 := hcell
                       rw [hB.cell (p := ad.add i) (by rw [block_of_add]; exact hbk), ← hB2.cell (p := ad.add i) (by rw [block_of_add]; exact hbk)] at hcell2
                       rw [show [Value.int .u8 0] = u8s [0] from rfl, ← u8s_append, ← packF_more _ _ (by rw [List.length_take]; have := need_le i; omega), ← need_zero i H8.out] at hown2
                       obtain ⟨g, x, rfl, hf, hg, hg2', hx1, hx2, hc1', hf1, hst, hsf⟩ := pack_facts xs i _ hb' hown2
                       have hx0 : x = 0 := by rw [H8.out] at hx1; omega
                       subst hx0
                       rw [need_zero i H8.out] at *
                       clear hb2 hcell hB hown hx1 hx2)
        · go_roundw
          case rel =>
            refine ⟨i + 1, 2, some ⟨g, 0, none⟩, c2, by omega, by go_num, rfl, by omega, ?_, by rw [need_zero i H8.out], ?_, hB2⟩
            · intro _
              rw [show (i + 1) % 8 = 1 by have := H8.out; omega]
            · rw [need_zero i H8.out, hsf rfl]; exact hown2
          case measure => simp [intOf]; omega
        · go_roundw
          case rel =>
            refine ⟨i + 1, 2, some ⟨g, 0, none⟩, c2, by omega, by go_num, rfl, by omega, ?_, by rw [need_zero i H8.out], ?_, bset (p := ⟨g, i / 8, none⟩) hB2 hg _⟩
            · intro _
              rw [show (i + 1) % 8 = 1 by have := H8.out; omega]
            · rw [need_zero i H8.out]
              have := hst rfl
              rw [H8.out] at this
              exact this
          case measure => simp [intOf]; omega
      · have ht : (((i : Int) % 8) == 0) = false := by simp; omega
        rw [← need_same i h8] at hown ⊢
        obtain ⟨g, x, rfl, hf, hg, hg2', hx1, hx2, hc1', hf1, hst, hsf⟩ := pack_facts xs i _ hb' hown
        have hpp := Hp.out h8
        have H8 := Lib.hid h8
        have Hpp := Lib.hid hpp
        have Hx1 := Lib.hid hx1
        have hp128 : p ≤ 128 := by rw [hpp]; exact pow8_le i
        have hxp : x + p < 256 := by omega
        clear h8 hpp hx1
        have hpn : (i + 1) % 8 ≠ 0 → p * 2 % 256 = 2 ^ ((i + 1) % 8) := fun h => by
          rw [← pow8_next i h, ← Hpp.out]
          have := pow8_le (i + 1)
          rw [← pow8_next i h, ← Hpp.out] at this
          omega
        have Hpn := Lib.hid hpn
        clear hpn
        cases b
        · go_wp2
          go_roundw
          case rel => exact ⟨i + 1, p * 2 % 256, some ⟨g, 0, none⟩, c1, by omega, by go_num, by go_num, by omega, Hpn.out, rfl, by rw [hsf rfl]; exact hown, hB⟩
          case measure => simp [intOf]; omega
        · go_wp2
          go_roundw
          case rel =>
            refine ⟨i + 1, p * 2 % 256, some ⟨g, 0, none⟩, c1, by omega, by go_num, by go_num, by omega, Hpn.out, rfl, ?_, bset (p := ⟨g, i / 8, none⟩) hB hg _⟩
            have := hst rfl
            rw [← Hpp.out] at this
            exact this
          case measure => simp [intOf]; omega
    · go_wp2
      go_ret
      have hil : xs.take i = xs := List.take_of_length_le (by rw [Hlen.out]; omega)
      have hie : i = l := by omega
      have hpl : (packL xs).length = need i := by rw [packL_length, Hlen.out, hie]
      have hpe : packF (need i) xs = packL xs := by rw [packL, Hlen.out, hie]
      rw [hil, hpe] at hown
      rw [hpl]
      obtain ⟨A', c', hv, h1, h2⟩ := own_shape hown
      injection hv with hA hn hc'
      subst hA hc'
      exact ⟨A1, c1, rfl, h1, h2, hown, hB⟩
end Go.Proofs.YtfgpbnfobpfacaaGreatDoor
