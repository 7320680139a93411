/- A map from texts to numbers that the call made: what it holds, as a plain function. Conditions: none of its own. -/
import Derived.Test.YtckaohkhknoocaaText
import Derived.Maps.OwnSet
import Derived.Maps.OwnOps
import Derived.StringKeys
set_option linter.unusedVariables false
set_option linter.unusedSimpArgs false
namespace Go.Proofs.Ytckaohkhknoocaa
open Go.RowKit
open Go.Maps (Keyed)

/-- Block g of w is a map of texts: m texts are in it (of at most n that were put), and f tells the number of each. -/
def MapS (P : Program) (k e : TypeId) (w : World) (g n m : Nat) (f : ByteArray → Option Int) : Prop :=
  ∃ D : DataW Unit, w.ownsMap P k (plainElem P e) g n D ∧ Maps.size D = m ∧ ∀ s : ByteArray, Maps.has D (.string s.data.toList) = (f s).isSome ∧ ∀ z x, f s = some x → D.atKey (.string s.data.toList) z = .lit (.int .i64 x)

theorem strLit_inj {s t : ByteArray} (h : (Lit.string s.data.toList) = .string t.data.toList) : s = t := by
  injection h with h
  cases s; cases t
  simp only at h
  congr 1
  exact Array.toList_inj.1 h
section
variable {P : Program} {k e t : TypeId} {w w' : World} {g n m : Nat} {f : ByteArray → Option Int}
theorem MapS.made (w : World) : MapS P k e (w.alloc (.map #[] 0)) w.heap.size 0 0 (fun _ => none) :=
  ⟨.map [], World.ownsMap_made _ _ _ _, rfl, fun s => ⟨rfl, fun z x h => by cases h⟩⟩
theorem MapS.lt (h : MapS P k e w g n m f) : g < w.heap.size := h.choose_spec.1.lt
theorem MapS.block (h : MapS P k e w g n m f) (hb : w'.heap[g]? = w.heap[g]?) : MapS P k e w' g n m f := by
  obtain ⟨D, ⟨es, clock, h1, h2⟩, h3⟩ := h
  exact ⟨D, ⟨es, clock, hb.trans h1, h2⟩, h3⟩
theorem MapS.below {B : Nat} (h : MapS P k e w g n m f) (hb : Below B w w') (hg : g < B) : MapS P k e w' g n m f := h.block (hb.block g hg)
theorem MapS.on (h : MapS P k e w g n m f) (hb : Below w.heap.size w w') : MapS P k e w' g n m f := h.below hb h.lt
theorem MapS.al (h : MapS P k e w g n m f) (o : Obj) : MapS P k e (w.alloc o) g n m f := h.on ((Below.refl _ _).alloc (Nat.le_refl _) o)
theorem MapS.drew (h : MapS P k e w g n m f) : MapS P k e w.drew g n m f := h.block rfl
theorem MapS.grown (h : MapS P k e w g n m f) {row : Option Nat} (hg : w.grownBy w' row) (hne : some g ≠ row) : MapS P k e w' g n m f := by
  obtain ⟨D, h1, h2⟩ := h
  exact ⟨D, h1.kept hg hne, h2⟩
theorem MapS.set (h : MapS P k e w g n m f) {a : Addr} (ha : g ≠ a.block) (u : Value) : MapS P k e (w.setCell a u) g n m f := by
  obtain ⟨D, h1, h2⟩ := h
  exact ⟨D, h1.setCell ha u, h2⟩
theorem MapS.mono (h : MapS P k e w g n m f) {n' : Nat} (hn : n ≤ n') : MapS P k e w g n' m f := by
  obtain ⟨D, h1, h2⟩ := h
  exact ⟨D, h1.mono hn, h2⟩
theorem MapS.same (h : MapS P k e w g n m f) {f' : ByteArray → Option Int} (hf : ∀ s, f' s = f s) : MapS P k e w g n m f' := by
  obtain rfl : f' = f := funext hf
  exact h
theorem MapS.wf (h : MapS P k e w g n m f) (he : P.underlying e = some (.int .i64)) (hk : P.underlying k = some .string) (ht : P.underlying t = some (.map k e)) (hz : (zeroValue e).run P w = .ok (.int .i64 0) w) (s : ByteArray) (hs : s.size ≤ maxLen) :
    (Instr.lookup t (.map (some g)) (.string s) true).run P w = .ok (.tuple #[.int .i64 ((f s).getD 0), .bool (f s).isSome]) w ∧
    (Instr.lookup t (.map (some g)) (.string s) false).run P w = .ok (.int .i64 ((f s).getD 0)) w := by
  obtain ⟨D, h1, h2, h3⟩ := h
  have hkey := WideMaps.keyOf_string_mk hk hs
  have hw0 : (Lit.int .i64 0).wf = true := by decide
  obtain ⟨v, ps, hrun, hv⟩ := h1.look_ok (string_keyed' hk) ht hz (plainElem_int he hw0) hkey
  obtain ⟨c, rfl, hc, hwc⟩ := plainElem_int_inv he hv
  simp only [Prod.mk.injEq] at hc
  obtain ⟨c', hrun', hat', -⟩ := h1.lookup_int (string_keyed' hk) ht he hz hkey
  have hcc : c' = c := by
    have := hat'.symm.trans hc.1
    simpa using this
  subst hcc
  have hval : c' = (f s).getD 0 := by
    rcases hf : f s with _ | x
    · have hno := (h3 s).1
      rw [hf] at hno
      have := Maps.atKey_of_not_has hno (.lit (.int .i64 0))
      rw [this] at hat'
      simpa using hat'.symm
    · have := (h3 s).2 (.lit (.int .i64 0)) x hf
      rw [this] at hat'
      simpa using hat'.symm
  rw [hrun, hrun', (h3 s).1, hval]
  exact ⟨rfl, rfl⟩
 where string_keyed' {k : TypeId} (hk : P.underlying k = some .string) : Keyed P k := Maps.string_keyed hk
theorem MapS.len_ (h : MapS P k e w g n m f) (ht : P.underlying t = some (.map k e)) (ty : TypeId) : (Builtin.len_ #[t] ty #[.map (some g)]).run P w = .ok (.int .i64 (m : Int)) w := by
  obtain ⟨D, h1, h2, h3⟩ := h
  rw [h1.len ht ty, h2]
theorem MapS.store (h : MapS P k e w g n m f) (he : P.underlying e = some (.int .i64)) (hk : P.underlying k = some .string) (ht : P.underlying t = some (.map k e)) (hn : n < maxLen) (s : ByteArray) (hs : s.size ≤ maxLen) (x : Int) (hx : (Lit.int .i64 x).wf = true) :
    ∃ w', (Instr.mapUpdate t (.map (some g)) (.string s) (.int .i64 x)).run P w = .ok () w' ∧ MapS P k e w' g (n + 1) (if (f s).isSome then m else m + 1) (fun r => if r = s then some x else f r) ∧ w.grownBy w' (some g) := by
  obtain ⟨D, h1, h2, h3⟩ := h
  have hkey := WideMaps.keyOf_string_mk hk hs
  obtain ⟨w', hrun, hown, hg⟩ := h1.update (Maps.string_keyed hk) ht hn hkey (plainElem_int he hx)
  refine ⟨w', hrun, ⟨_, hown, ?_, fun r => ?_⟩, hg⟩
  · rw [Maps.size_put (h1.tidy (Maps.string_keyed hk)), (h3 s).1, h2]
  · by_cases hr : r = s
    · subst hr
      dsimp only
      rw [if_pos rfl]
      refine ⟨Maps.has_put_same h1.isMap (by trivial) _, fun z y hy => ?_⟩
      rw [Maps.atKey_put_same h1.isMap (by trivial)]
      simpa using hy
    · dsimp only
      rw [if_neg hr]
      have hne : (Lit.string r.data.toList) ≠ .string s.data.toList := fun e => hr (strLit_inj e)
      refine ⟨(Maps.has_put_other hne _).trans (h3 r).1, fun z y hy => ?_⟩
      rw [Maps.atKey_put_other hne]
      exact (h3 r).2 z y hy
end
section
variable {P : Program} {k e : TypeId} {w : World} {g n m : Nat} {f : ByteArray → Option Int}
theorem wpList_mapS_store {ops : Array Oper} {rest : List Oper} {o : Oper} {a : Act} {Q : Exit → Act → World → Prop}
    (hg : o.guard = none) (mo x v : Operand) (t : TypeId) (hop : o.op = Op.mapUpdate t mo x v) (h : MapS P k e w g n m f) (he : P.underlying e = some (.int .i64)) (hk : P.underlying k = some .string) (ht : P.underlying t = some (.map k e)) (hn : n < maxLen)
    (s : ByteArray) (hs : s.size ≤ maxLen) (y : Int) (hy : (Lit.int .i64 y).wf = true) (hm : a.eval mo = .map (some g)) (hx : a.eval x = .string s) (hv : a.eval v = .int .i64 y)
    (hK : ∀ w', MapS P k e w' g (n + 1) (if (f s).isSome then m else m + 1) (fun r => if r = s then some y else f r) → w.grownBy w' (some g) → wpList P ops Q rest (a.put o.dst undef) w') :
    wpList P ops Q (o :: rest) a w := by
  refine wpList_plain hg fun K' hK' => ?_
  obtain ⟨w', hrun, r1, r2⟩ := h.store he hk ht hn s hs y hy
  unfold Oper.wp
  simp [execOp, hop, hm, hx, hv, hrun, Result.andThen]
  exact hK' _ _ (hK w' r1 r2)
theorem wpList_mapS_ok {ops : Array Oper} {rest : List Oper} {o : Oper} {a : Act} {Q : Exit → Act → World → Prop}
    (hg : o.guard = none) (mo x : Operand) (t : TypeId) (hop : o.op = Op.lookup t mo x true) (h : MapS P k e w g n m f) (he : P.underlying e = some (.int .i64)) (hk : P.underlying k = some .string) (ht : P.underlying t = some (.map k e)) (hz : (zeroValue e).run P w = .ok (.int .i64 0) w)
    (s : ByteArray) (hs : s.size ≤ maxLen) (r : Option Int) (hr : f s = r) (hm : a.eval mo = .map (some g)) (hx : a.eval x = .string s)
    (hK : wpList P ops Q rest (a.put o.dst (.tuple #[.int .i64 (r.getD 0), .bool r.isSome])) w) :
    wpList P ops Q (o :: rest) a w := by
  subst hr
  refine wpList_plain hg fun K' hK' => ?_
  have hrun := (h.wf he hk ht hz s hs).1
  unfold Oper.wp
  simp [execOp, hop, hm, hx, hrun, Result.andThen]
  exact hK' _ _ hK
theorem wpList_mapS_get {ops : Array Oper} {rest : List Oper} {o : Oper} {a : Act} {Q : Exit → Act → World → Prop}
    (hg : o.guard = none) (mo x : Operand) (t : TypeId) (hop : o.op = Op.lookup t mo x false) (h : MapS P k e w g n m f) (he : P.underlying e = some (.int .i64)) (hk : P.underlying k = some .string) (ht : P.underlying t = some (.map k e)) (hz : (zeroValue e).run P w = .ok (.int .i64 0) w)
    (s : ByteArray) (hs : s.size ≤ maxLen) (r : Option Int) (hr : f s = r) (hm : a.eval mo = .map (some g)) (hx : a.eval x = .string s)
    (hK : wpList P ops Q rest (a.put o.dst (.int .i64 (r.getD 0))) w) :
    wpList P ops Q (o :: rest) a w := by
  subst hr
  refine wpList_plain hg fun K' hK' => ?_
  have hrun := (h.wf he hk ht hz s hs).2
  unfold Oper.wp
  simp [execOp, hop, hm, hx, hrun, Result.andThen]
  exact hK' _ _ hK
end
/-! ### Rows and maps of the call's own, side by side -/
theorem own_apart {w w' : World} {base base2 : Nat} {e e2 : TypeId} {v v2 : Value} {n n2 size size2 : Nat} {xs ys : List Value} (h : w.ownsRow base e size v n xs) (h2 : w.ownsRow base2 e2 size2 v2 n2 ys) (hne : e ≠ e2) (hg : w.grownBy w' v2.ownBlock) : w'.ownsRow base e size v n xs := by
  refine h.kept hg ?_
  rcases h.2 with ⟨rfl, _⟩ | ⟨g, cap, cur, rfl, _, hh, _⟩
  · exact .inl rfl
  · right
    rcases h2.2 with ⟨rfl, _⟩ | ⟨g2, cap2, cur2, rfl, _, hh2, _⟩
    · simp [Value.ownBlock]
    · simp only [Value.ownBlock, ne_eq, Option.some.injEq]
      rintro rfl
      rw [hh] at hh2
      injection hh2 with hh2
      injection hh2 with _ h3
      exact hne h3
theorem MapS.apart {P : Program} {k e : TypeId} {w : World} {g n m : Nat} {f : ByteArray → Option Int} (h : MapS P k e w g n m f) {base : Nat} {e2 : TypeId} {size n2 : Nat} {v : Value} {ys : List Value} (h2 : w.ownsRow base e2 size v n2 ys) : some g ≠ v.ownBlock := by
  obtain ⟨D, ⟨es, clock, h1, -⟩, -⟩ := h
  rcases h2.2 with ⟨rfl, _⟩ | ⟨g2, cap2, cur2, rfl, _, hh2, _⟩
  · simp [Value.ownBlock]
  · simp only [Value.ownBlock, ne_eq, Option.some.injEq]
    rintro rfl
    rw [h1] at hh2
    injection hh2 with hh2
    cases hh2
theorem own_map {P : Program} {k e : TypeId} {w w' : World} {g n m : Nat} {f : ByteArray → Option Int} (h : MapS P k e w g n m f) {base : Nat} {e2 : TypeId} {size n2 : Nat} {v : Value} {ys : List Value} (h2 : w.ownsRow base e2 size v n2 ys) (hg : w.grownBy w' (some g)) : w'.ownsRow base e2 size v n2 ys :=
  h2.kept hg (.inr (h.apart h2).symm)
end Go.Proofs.Ytckaohkhknoocaa
