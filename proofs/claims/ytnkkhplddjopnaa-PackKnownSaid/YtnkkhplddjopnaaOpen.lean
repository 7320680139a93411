/- Arguments opened: slices of structs of one-cell fields. -/
import Derived.Test.YtnkkhplddjopnaaMem
import Derived.Deep.Fields
set_option linter.unusedVariables false
set_option linter.unusedSimpArgs false
namespace Go.Proofs.Ytnkkhplddjopnaa
open Go.RowKit Go.Deep Go.ChangeShapes Go.WideShapes
theorem flatMap_at {α β : Type} (f : α → List β) (s : Nat) (hs : ∀ a, (f a).length = s) : ∀ (l : List α) (k j : Nat) (a : α), l[k]? = some a → j < s → (l.flatMap f)[k * s + j]? = (f a)[j]? := by
  intro l
  induction l with
  | nil => intro k j a h _; simp at h
  | cons b l ih =>
    intro k j a h hj
    simp only [List.flatMap_cons]
    cases k with
    | zero =>
      simp only [List.getElem?_cons_zero, Option.some.injEq] at h
      subst h
      rw [Nat.zero_mul, Nat.zero_add, List.getElem?_append_left (by rw [hs]; exact hj)]
    | succ k =>
      simp only [List.getElem?_cons_succ] at h
      rw [List.getElem?_append_right (by rw [hs, Nat.succ_mul]; omega), hs, ← ih k j a h hj]
      congr 1
      rw [Nat.succ_mul]
      omega
theorem flatMap_length {α β : Type} (f : α → List β) (s : Nat) (hs : ∀ a, (f a).length = s) (l : List α) : (l.flatMap f).length = l.length * s := by
  induction l with
  | nil => simp
  | cons b l ih => rw [List.flatMap_cons, List.length_append, ih, hs, List.length_cons, Nat.succ_mul, Nat.add_comm]
section
variable {H : Type} {enc : TypeId × Value → H} {P : Program} {w : World} {held : Bool} {sp : Nat → Bool} {base : Nat}
/-- A struct whose fields are one cell each, cell by cell. -/
theorem struct_cells {ts : TypeId} {fs : Array Field} {fuel : Nat} {cs : List Value} {x : DataW H × List MemPlace} (hs : P.underlying ts = some (.struct fs)) (hone : oneCellFields P fs = true) (hC : P.cellsOf ts = fs.size)
    (h : DataW.trod enc P w base sp held fuel ts cs = some x) :
    ∃ n, cs.length = fs.size ∧ ∀ (i : Nat) (f : Field) (v : Value), fs[i]? = some f → cs[i]? = some v → ∃ y, DataW.trod enc P w base sp held n f.type [v] = some y := by
  obtain ⟨xs, n, _, rfl, hcl, hxl, hf⟩ := DataW.trod_struct hs h
  refine ⟨n, by rw [hcl, hC], fun i f v hi hv => ?_⟩
  obtain ⟨ho, hc1⟩ := hone_of hone i f hi
  have g := hf i f hi
  have hlt : i < fs.size := (Array.getElem?_eq_some_iff.1 hi).1
  have hci : i < cs.length := by rw [hcl, hC]; exact hlt
  rw [ho, hc1, take1_drop cs i v hci] at g
  have hg : cs.getD i v = v := by rw [List.getD_eq_getElem?_getD, hv]; rfl
  rw [hg, List.getElem?_eq_getElem (by omega)] at g
  exact ⟨_, g⟩
/-- A slice whose elements have size cells each. -/
theorem structs_of {α : Type} [Inhabited α] (size : Nat) (cells : α → List Value) (ok : α → Prop) (hpos : 0 < size) (hsz : ∀ a, (cells a).length = size) {t e : TypeId} {a : Option Addr} {len cap : Nat} {d : DataW H} {p : List MemPlace}
    (ht : P.underlying t = some (.slice e)) (hc : P.cellsOf e = size)
    (hel : ∀ n cs y, DataW.trod enc P w 0 (fun _ => true) held n e cs = some y → ∃ x, cs = cells x ∧ ok x)
    (h : DataW.Trod enc P w 0 (fun _ => true) held t (.slice a len cap) d p) :
    ∃ xs : List α, Reads w w.heap.size size a len (xs.flatMap cells) ∧ len ≤ cap ∧ cap ≤ maxLen ∧ ∀ x ∈ xs, ok x := by
  obtain ⟨fuel, hf⟩ := h
  rcases open_slice ht hf with ⟨hcs, _⟩ | ⟨ad, l, c, m, n, D, Pl, hcs, hb, hl, hm, hmm, _, hx⟩
  · simp [Value.cells] at hcs
    obtain ⟨rfl, rfl, rfl⟩ := hcs
    exact ⟨[], Reads.none_, Nat.le_refl _, by simp [maxLen], by simp⟩
  · simp [Value.cells] at hcs
    obtain ⟨rfl, rfl, rfl⟩ := hcs
    simp only [if_true] at hmm
    subst hmm
    rw [hc] at hx
    obtain ⟨X, hX⟩ := choose_lt (α := α) (p := fun i x => w.cells? 0 (ad.add (i * size)) size = some (cells x) ∧ ok x) (fun i hi => by
      obtain ⟨cs', h1, h2⟩ := hx i hi
      obtain ⟨x, rfl, h3⟩ := hel _ _ _ h2
      exact ⟨x, h1, h3⟩)
    have hcell : ∀ j u, ((List.range len).map X |>.flatMap cells)[j]? = some u → w.cell? (ad.add j) = some u := by
      intro j u hu
      have hjl : j < len * size := by
        have := (List.getElem?_eq_some_iff.1 hu).1
        rw [flatMap_length _ size hsz] at this
        simpa using this
      have hjd := Nat.div_add_mod j size
      have hdl : j / size < len := (Nat.div_lt_iff_lt_mul hpos).2 hjl
      obtain ⟨h1, _⟩ := hX (j / size) (by omega)
      obtain ⟨_, _, h3⟩ := World.cells?_some h1
      have h4 := h3 (j % size) (Nat.mod_lt _ hpos)
      rw [add_of_add, show j / size * size + j % size = j from by rw [Nat.mul_comm]; exact hjd] at h4
      rw [h4, ← hu]
      have h5 := flatMap_at cells size hsz ((List.range len).map X) (j / size) (j % size) (X (j / size)) (by rw [List.getElem?_map, List.getElem?_range hdl]; rfl) (Nat.mod_lt _ hpos)
      rw [show j / size * size + j % size = j from by rw [Nat.mul_comm]; exact hjd] at h5
      exact h5.symm
    refine ⟨(List.range len).map X, ⟨?_, fun hn => ⟨ad, rfl, ?_, hcell⟩⟩, hl, hm, fun x hx => ?_⟩
    · rw [flatMap_length _ size hsz]
      simp
    · obtain ⟨h1, _⟩ := hX 0 (by omega)
      obtain ⟨_, hl0, h3⟩ := World.cells?_some h1
      have h4 := h3 0 hpos
      rw [List.getElem?_eq_getElem (by omega)] at h4
      have := World.block_lt_of_cell? _ _ h4
      rwa [block_of_add, block_of_add] at this
    · obtain ⟨i, hi, rfl⟩ := List.mem_map.1 hx
      exact (hX i (by have := List.mem_range.1 hi; omega)).2
end
end Go.Proofs.Ytnkkhplddjopnaa
