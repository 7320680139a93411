/- Texts and numbers as cells. -/
import Derived.Test.YtnkkhplddjopnaaMem
set_option linter.unusedVariables false
set_option linter.unusedSimpArgs false
namespace Go.Proofs.Ytnkkhplddjopnaa
def txs (l : List ByteArray) : List Value := l.map Value.string
@[simp] theorem txs_length (l : List ByteArray) : (txs l).length = l.length := by simp [txs]
theorem txs_append (l m : List ByteArray) : txs (l ++ m) = txs l ++ txs m := by simp [txs]
theorem txs_take (l : List ByteArray) (k : Nat) : (txs l).take k = txs (l.take k) := by simp [txs, List.map_take]
theorem txs_drop (l : List ByteArray) (k : Nat) : (txs l).drop k = txs (l.drop k) := by simp [txs, List.map_drop]
theorem txs_set (l : List ByteArray) (i : Nat) (c : ByteArray) : (txs l).set i (.string c) = txs (l.set i c) := by simp [txs, List.map_set]
theorem txs_one (l : List ByteArray) : ∀ u ∈ txs l, u.oneCell' = true := by
  intro u hu
  simp only [txs, List.mem_map] at hu
  obtain ⟨c, _, rfl⟩ := hu
  rfl
theorem txs_get (xs : List ByteArray) (k : Nat) (v : Value) (h : (txs xs)[k]? = some v) : ∃ c : ByteArray, xs[k]? = some c ∧ v = .string c := by
  simp only [txs, List.getElem?_map, Option.map_eq_some_iff] at h
  obtain ⟨c, h1, h2⟩ := h
  exact ⟨c, h1, h2.symm⟩
theorem tlen {w : World} {B n : Nat} {A : Option Addr} {l : List ByteArray} (h : Reads w B 1 A n (txs l)) : l.length = n := by
  have := h.1
  simpa using this
def ins (l : List Int) : List Value := l.map (Value.int .i64)
@[simp] theorem ins_length (l : List Int) : (ins l).length = l.length := by simp [ins]
theorem ins_append (l m : List Int) : ins (l ++ m) = ins l ++ ins m := by simp [ins]
theorem ins_take (l : List Int) (k : Nat) : (ins l).take k = ins (l.take k) := by simp [ins, List.map_take]
theorem ins_drop (l : List Int) (k : Nat) : (ins l).drop k = ins (l.drop k) := by simp [ins, List.map_drop]
theorem ins_one (l : List Int) : ∀ u ∈ ins l, u.oneCell' = true := by
  intro u hu
  simp only [ins, List.mem_map] at hu
  obtain ⟨c, _, rfl⟩ := hu
  rfl
theorem ins_get (xs : List Int) (k : Nat) (v : Value) (h : (ins xs)[k]? = some v) : ∃ c : Int, xs[k]? = some c ∧ v = .int .i64 c := by
  simp only [ins, List.getElem?_map, Option.map_eq_some_iff] at h
  obtain ⟨c, h1, h2⟩ := h
  exact ⟨c, h1, h2.symm⟩
theorem ilen {w : World} {B n : Nat} {A : Option Addr} {l : List Int} (h : Reads w B 1 A n (ins l)) : l.length = n := by
  have := h.1
  simpa using this
end Go.Proofs.Ytnkkhplddjopnaa
