/- A text's bytes in memory of their own. -/
import Derived.Test.YtnkkhplddjopnaaMem
import Derived.Lib.ConvBytes
set_option linter.unusedVariables false
set_option linter.unusedSimpArgs false
namespace Go.Proofs.Ytnkkhplddjopnaa
open Go.RowKit
theorem str_bytes {P : Program} (w : World) (src dst e : TypeId) (s : ByteArray) (hs : P.underlying src = some .string) (hd : P.underlying dst = some (.slice e)) (he : P.underlying e = some (.int .u8)) (hz : s.size ≤ maxLen) :
    ∃ (A : Option Addr) (c : Nat) (w1 : World), (convert src dst (.string s)).run P w = .ok (.slice A s.size c) w1 ∧ Reads w1 w1.heap.size 1 A s.size (u8s s.data.toList) ∧ s.size ≤ c ∧ c ≤ maxLen ∧ Below w.heap.size w w1 := by
  have hlen : s.data.toList.length = s.size := by rw [Array.length_toList]; rfl
  refine ⟨_, _, _, Lib.run_convert_string_bytes w src dst e s hs hd he, ⟨by simp [hlen], fun _ => ⟨_, rfl, ?_, ?_⟩⟩, grownCap_ge w s.size 0 e, grownCap_le_maxLen w s.size 0 e hz, ?_⟩
  · show w.heap.size < _
    rw [Lib.bytesWorld_size]
    omega
  · intro j u hu
    simp only [u8s, List.getElem?_map, Option.map_eq_some_iff] at hu
    obtain ⟨b, hb, rfl⟩ := hu
    obtain ⟨hj, rfl⟩ := List.getElem?_eq_some_iff.1 hb
    have := Lib.bytesWorld_cell w e s j (by omega)
    rw [show (⟨w.heap.size, 0, none⟩ : Addr).add j = ⟨w.heap.size, j, none⟩ from by unfold Addr.add; split <;> simp_all]
    rw [this, List.getD_eq_getElem?_getD, List.getElem?_eq_getElem hj]
    rfl
  · refine ⟨rfl, rfl, rfl, by rw [Lib.bytesWorld_size]; omega, fun k hk => Lib.bytesWorld_at_old w e s k hk⟩
end Go.Proofs.Ytnkkhplddjopnaa
