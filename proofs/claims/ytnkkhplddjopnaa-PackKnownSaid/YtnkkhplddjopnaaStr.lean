/- Appending a text's bytes to bytes. -/
import Derived.Test.YtnkkhplddjopnaaMem
import Derived.Lib.AppendStr
set_option linter.unusedVariables false
set_option linter.unusedSimpArgs false
namespace Go.Proofs.Ytnkkhplddjopnaa
open Go.RowKit
section
variable {P : Program}
/-- append(b, s...) onto a row of the call's own. -/
theorem wpList_append_str {ops : Array Oper} {rest : List Oper} {o : Oper} {a : Act} {Q : Exit → Act → World → Prop} {w : World} (hgd : o.guard = none) (sl x : Operand) (t u : TypeId)
    (ho : o.op = .call { callee := .builtin .append, args := #[sl, x], argTypes := #[t, u] })
    (base : Nat) (e : TypeId) (i : TypeInfo) (ht : P.underlying t = some (.slice e)) (hu : P.underlying u = some .string) (hi : P.info? e = some i) (hz : i.zero = some (.int .u8 0))
    (hsize : i.size = 1) (hby : i.bytes = 1)
    (A : Option Addr) (n c : Nat) (xs : List UInt8) (hs : a.eval sl = .slice A n c) (hown : w.ownsRow base e 1 (.slice A n c) n (u8s xs)) (s : ByteArray) (hx : a.eval x = .string s)
    (h63 : n + s.data.toList.length ≤ 70368744177664) (hbase : base ≤ w.heap.size)
    (h : ∀ A' c' w', w'.ownsRow base e 1 (.slice A' (n + s.data.toList.length) c') (n + s.data.toList.length) (u8s (xs ++ s.data.toList)) → Below base w w' → w.grownBy w' (Value.slice A n c).ownBlock → n + s.data.toList.length ≤ c' → c' ≤ maxLen → wpList P ops Q rest (a.put o.dst (.slice A' (n + s.data.toList.length) c')) w') : wpList P ops Q (o :: rest) a w := by
  have hlen : s.data.toList.length = s.size := by rw [Array.length_toList]; rfl
  refine Lib.wpList_append_own_string w hgd sl x t u ho base e i ht hu hi hz hsize hby _ n _ hs hown s hx (by simp only [maxLen]; omega) (by omega) hbase ?_
  intro v' w' h1 h2 h3
  obtain ⟨A', c', rfl, h4, h5⟩ := own_shape h1
  rw [← hlen] at h1 h4 ⊢
  refine h A' c' w' ?_ ((Below.refl _ _).grown h2 hbase (fun k hk => (hown.lt k hk).1)) h2 h4 h5
  rw [u8s_append]
  exact h1
theorem wp_append_str {o : Oper} {a : Act} {K : Act → World → Prop} {Q : Exit → Act → World → Prop} {w : World} (sl x : Operand) (t u : TypeId)
    (ho : o.op = .call { callee := .builtin .append, args := #[sl, x], argTypes := #[t, u] })
    (base : Nat) (e : TypeId) (i : TypeInfo) (ht : P.underlying t = some (.slice e)) (hu : P.underlying u = some .string) (hi : P.info? e = some i) (hz : i.zero = some (.int .u8 0))
    (hsize : i.size = 1) (hby : i.bytes = 1)
    (A : Option Addr) (n c : Nat) (xs : List UInt8) (hs : a.eval sl = .slice A n c) (hown : w.ownsRow base e 1 (.slice A n c) n (u8s xs)) (s : ByteArray) (hx : a.eval x = .string s)
    (h63 : n + s.data.toList.length ≤ 70368744177664) (hbase : base ≤ w.heap.size)
    (h : ∀ A' c' w', w'.ownsRow base e 1 (.slice A' (n + s.data.toList.length) c') (n + s.data.toList.length) (u8s (xs ++ s.data.toList)) → Below base w w' → w.grownBy w' (Value.slice A n c).ownBlock → n + s.data.toList.length ≤ c' → c' ≤ maxLen → K (a.put o.dst (.slice A' (n + s.data.toList.length) c')) w') : o.wp P a w K Q := by
  have hlen : s.data.toList.length = s.size := by rw [Array.length_toList]; rfl
  obtain ⟨v', w', hrun, h2, h3, h4⟩ := Lib.run_append_own_string (P := P) w base t u o.type e i ht hu hi hz hsize hby _ n _ hown s (by simp only [maxLen]; omega) (by omega) hbase
  obtain ⟨A', c', rfl, h4, h5⟩ := own_shape h2
  unfold Oper.wp execOp
  simp only [ho, resolve, invoke, builtin, Sem.run_bind, Sem.run_pure, Result.andThen_ok, List.map_toArray, List.map_cons, List.map_nil, hs, hx, hrun]
  rw [← hlen] at h2 h4 ⊢
  refine h A' c' w' ?_ ((Below.refl _ _).grown h3 hbase (fun k hk => (hown.lt k hk).1)) h3 h4 h5
  rw [u8s_append]
  exact h2
end
end Go.Proofs.Ytnkkhplddjopnaa
