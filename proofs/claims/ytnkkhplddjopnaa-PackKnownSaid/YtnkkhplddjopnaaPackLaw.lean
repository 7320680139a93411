/- Layer 3: what the laws' walks share: lists of pieces and of what is asked, both writers, both readers. -/
import Derived.Test.YtnkkhplddjopnaaPackWorks
import Derived.Test.YtnkkhplddjopnaaOpen
set_option linter.unusedVariables false
set_option linter.unusedSimpArgs false
namespace Go.Proofs.Ytnkkhplddjopnaa
open Go.RowKit
/-- Pieces: a kind, a number, a text. -/
abbrev Pc := Int × Nat × ByteArray
def pcs (l : List Pc) : List Value := l.flatMap fun p => [.int .i64 p.1, .int .u64 (p.2.1 : Int), .string p.2.2]
def PcOk (l : List Pc) : Prop := ∀ p ∈ l, -9223372036854775808 ≤ p.1 ∧ p.1 ≤ 9223372036854775807 ∧ p.2.1 < 18446744073709551616 ∧ p.2.2.size ≤ maxLen
def aks (l : List (Int × Int)) : List Value := l.flatMap fun p => [.int .i64 p.1, .int .i64 p.2]
def AkOk (l : List (Int × Int)) : Prop := ∀ p ∈ l, -9223372036854775808 ≤ p.1 ∧ p.1 ≤ 9223372036854775807 ∧ -9223372036854775808 ≤ p.2 ∧ p.2 ≤ 9223372036854775807
theorem pcs_len {w : World} {B n : Nat} {A : Option Addr} {l : List Pc} (h : Reads w B 3 A n (pcs l)) : l.length = n := by
  have := h.1
  rw [pcs, flatMap_length _ 3 (fun _ => rfl)] at this
  omega
theorem aks_len {w : World} {B n : Nat} {A : Option Addr} {l : List (Int × Int)} (h : Reads w B 2 A n (aks l)) : l.length = n := by
  have := h.1
  rw [aks, flatMap_length _ 2 (fun _ => rfl)] at this
  omega
theorem pcs_at {w : World} {B n k : Nat} {A : Option Addr} {l : List Pc} (h : Reads w B 3 A n (pcs l)) (hk : k < n) : ∃ ad p, A = some ad ∧ ad.block < B ∧ l[k]? = some p ∧
    ∀ j v, [Value.int .i64 p.1, .int .u64 (p.2.1 : Int), .string p.2.2][j]? = some v → w.cell? ((ad.add (k * 3)).add j) = some v := by
  have hl := pcs_len h
  obtain ⟨ad, e, hb, hc⟩ := h.2 (by omega)
  refine ⟨ad, l[k], e, hb, List.getElem?_eq_getElem (by omega), fun j v hv => ?_⟩
  have hj : j < 3 := (List.getElem?_eq_some_iff.1 hv).1
  rw [add_of_add]
  exact hc _ _ (by rw [pcs, flatMap_at _ 3 (fun _ => rfl) l k j l[k] (List.getElem?_eq_getElem (by omega)) hj]; exact hv)
theorem aks_at {w : World} {B n k : Nat} {A : Option Addr} {l : List (Int × Int)} (h : Reads w B 2 A n (aks l)) (hk : k < n) : ∃ ad p, A = some ad ∧ ad.block < B ∧ l[k]? = some p ∧
    ∀ j v, [Value.int .i64 p.1, .int .i64 p.2][j]? = some v → w.cell? ((ad.add (k * 2)).add j) = some v := by
  have hl := aks_len h
  obtain ⟨ad, e, hb, hc⟩ := h.2 (by omega)
  refine ⟨ad, l[k], e, hb, List.getElem?_eq_getElem (by omega), fun j v hv => ?_⟩
  have hj : j < 2 := (List.getElem?_eq_some_iff.1 hv).1
  rw [add_of_add]
  exact hc _ _ (by rw [aks, flatMap_at _ 2 (fun _ => rfl) l k j l[k] (List.getElem?_eq_getElem (by omega)) hj]; exact hv)
/-- A struct is loaded. -/
theorem load_agg {P : Program} (w : World) (ty : TypeId) (d : TypeDesc) (ad : Addr) (cs : List Value) (hu : P.underlying ty = some d) (hd : (match d with | .struct _ | .array _ _ => true | _ => false) = true) (hi : (P.info? ty).map (·.size) = some cs.length)
    (h : ∀ j v, cs[j]? = some v → w.cell? (ad.add j) = some v) : (loadVar ty ad).run P w = .ok (.agg cs.toArray) w := by
  have hl := run_loadCells_list (P := P) w ad cs h
  cases hq : P.info? ty with
  | none => simp [hq] at hi
  | some i =>
    have hs : i.size = cs.length := by simpa [hq] using hi
    have hagg : (isAgg ty).run P w = .ok true w := by
      unfold isAgg
      rw [Sem.run_bind, run_underlying hu w]
      cases d <;> simp_all
    simp [loadVar, Sem.run_bind, hagg, sizeOf, typeInfo, hq, hs, hl]
/-- Both writers. -/
def Both (w : World) (base g1 g2 : Nat) (B1 : List UInt8) (m : Int) (f1 : Bool) (B2 : List UInt8) (f2 : Bool) : Prop :=
  ∃ r1 r2, PWr w base g1 r1 B1 m f1 ∧ RWr w base g2 r2 B2 m f2 ∧ ∀ k, r1 = some k → r2 ≠ some k
section
variable {w w' : World} {base g1 g2 : Nat} {r1 r2 : Option Nat} {B1 B2 b : List UInt8} {m : Int} {f1 f2 : Bool} {e : Ending}
theorem both_hne (h : ∀ k, r1 = some k → r2 ≠ some k) : (r1 = none ∨ r1 ≠ r2) ∧ (r2 = none ∨ r2 ≠ r1) := by
  rcases r1 with _ | a
  · refine ⟨.inl rfl, ?_⟩
    rcases r2 with _ | b
    · exact .inl rfl
    · exact .inr (by simp)
  · have := h a rfl
    exact ⟨.inr (fun e => this e.symm), .inr this⟩
theorem Both.on (h : Both w base g1 g2 B1 m f1 B2 f2) (hb : Below w.heap.size w w') : Both w' base g1 g2 B1 m f1 B2 f2 := by
  obtain ⟨r1, r2, h1, h2, h3⟩ := h
  exact ⟨r1, r2, h1.on hb, h2.on hb, h3⟩
theorem Both.put (h1 : PWr w base g1 r1 B1 m f1) (h2 : RWr w base g2 r2 B2 m f2) (h3 : ∀ k, r1 = some k → r2 ≠ some k) (hw : Wr base g1 r1 B1 m f1 b w e w') (hb : base ≤ w.heap.size) :
    e = .returned (.tuple #[]) ∧ Below base w w' ∧ Both w' base g1 g2 (rawB B1 m f1 b).1 m (rawB B1 m f1 b).2 B2 f2 := by
  obtain ⟨k1, k2, r', k3, k4⟩ := hw
  refine ⟨k1, k2.below hb h1.lt.2.1 (fun k hk => (h1.lt.2.2 k hk).1), r', r2, k4, h2.kept h1 (both_hne h3).2 k2, fun k hk hk2 => ?_⟩
  rcases k3 with rfl | ⟨q, rfl, hq⟩
  · exact h3 k hk hk2
  · injection hk with hk
    have := (h2.lt.2.2 k hk2).2
    omega
theorem Both.own (h1 : PWr w base g1 r1 B1 m f1) (h2 : RWr w base g2 r2 B2 m f2) (h3 : ∀ k, r1 = some k → r2 ≠ some k) (hw : RWrt base g2 r2 B2 m f2 b w e w') (hb : base ≤ w.heap.size) :
    e = .returned (.tuple #[]) ∧ Below base w w' ∧ Both w' base g1 g2 B1 m f1 (rawB B2 m f2 b).1 (rawB B2 m f2 b).2 := by
  obtain ⟨k1, k2, r', k3, k4⟩ := hw
  refine ⟨k1, k2.below hb h2.lt.2.1 (fun k hk => (h2.lt.2.2 k hk).1), r1, r', h1.kept h2 (both_hne h3).1 k2, k4, fun k hk hk2 => ?_⟩
  rcases k3 with rfl | ⟨q, rfl, hq⟩
  · exact h3 k hk hk2
  · injection hk2 with hk2
    have := (h1.lt.2.2 k hk).2
    omega
end
end Go.Proofs.Ytnkkhplddjopnaa
