/- Layer 15, walked: a cutter's number and text. -/
import Derived.Test.YtckaohkhknoocaaDictBook
import Derived.Test.YtckaohkhknoocaaLebRef
import Derived.Test.YtckaohkhknoocaaDictPut
set_option linter.unusedVariables false
set_option linter.unusedSimpArgs false
namespace Go.Proofs.Ytckaohkhknoocaa
open Go.RowKit
theorem grown_set (w : World) (g i : Nat) (u : Value) : w.grownBy (w.setCell ⟨g, i, none⟩ u) (some g) :=
  ⟨rfl, rfl, rfl, by simp [World.setCell], fun k hk hne => Below.heap_setCell w ⟨g, i, none⟩ u k (by intro e; exact hne (by rw [e]))⟩
theorem grown_refl (w : World) (r : Option Nat) : w.grownBy w r := ⟨rfl, rfl, rfl, Nat.le_refl _, fun _ _ _ => rfl⟩
theorem grown_drew (w : World) (r : Option Nat) : w.grownBy w.drew r := ⟨rfl, rfl, rfl, Nat.le_refl _, fun _ _ _ => rfl⟩
/-- A cutter: bytes, a place, an error. -/
abbrev Cut (w : World) (g : Nat) (A : Option Addr) (l c : Nat) (at' : Nat) (e : Nat) : Prop := Blk w g 60 #[.slice A l c, .int .i64 (at' : Int), .int .i64 (e : Int)]
theorem get_size (xs : List UInt8) : (get xs).2.1 ≤ xs.length ∧ (get xs).2.2 < 11 ∧ ((get xs).2.2 ≠ 0 → (get xs).1 = 0 ∧ (get xs).2.1 = 0) := by
  rcases get_only xs with ⟨n, h, h1, h2, h3⟩ | ⟨e, h, h1, h2⟩
  · rw [h]
    exact ⟨h2, show 0 < 11 from by decide, fun h => absurd rfl h⟩
  · rw [h]
    exact ⟨Nat.zero_le _, h2, fun _ => ⟨rfl, rfl⟩⟩
theorem own_grown {w w' : World} {base size n g : Nat} {e t : TypeId} {v : Value} {xs : List Value} {cs : Array Value} (h : w.ownsRow base e size v n xs) (hb : Blk w g t cs) (hne : e ≠ t) (hg : w.grownBy w' (some g)) : w'.ownsRow base e size v n xs := by
  refine h.kept hg ?_
  rcases h.2 with ⟨rfl, h0⟩ | ⟨g2, cap, cur, rfl, h1, h2, h3⟩
  · exact .inl rfl
  · right
    simp only [Value.ownBlock, ne_eq, Option.some.injEq]
    rintro rfl
    unfold Blk at hb
    rw [h2] at hb
    injection hb with hb
    injection hb with _ h4
    exact hne h4
theorem Blk.other {w w' : World} {g g2 : Nat} {t : TypeId} {cs : Array Value} (h : Blk w g t cs) (hg : w.grownBy w' (some g2)) (hne : g ≠ g2) : Blk w' g t cs :=
  (hg.block g h.lt (by simpa using hne)).trans h
theorem Blk.ne {w : World} {g g2 : Nat} {t t2 : TypeId} {cs cs2 : Array Value} (h : Blk w g t cs) (h2 : Blk w g2 t2 cs2) (hne : t ≠ t2) : g ≠ g2 := by
  rintro rfl
  unfold Blk at h h2
  rw [h] at h2
  injection h2 with h2
  injection h2 with _ h4
  exact hne h4
theorem Below.by_ {w w' : World} {B g : Nat} (hg : w.grownBy w' (some g)) (hB : B ≤ w.heap.size) (h : B ≤ g) : Below B w w' :=
  (Below.refl _ _).grown hg hB (fun k hk => by cases hk; exact h)

set_option maxRecDepth 100000 in
set_option maxHeartbeats 400000 in
theorem cnum_err (g : Nat) (A : Option Addr) (l c at' e : Nat) (w : World) (hb : Cut w g A l c at' e) (he : e ≠ 0) :
    Calls Try.prog 34 #[.pointer (some ⟨g, 0, none⟩)] w fun e' w' => e' = .returned (.int .u64 0) ∧ w = w' := by
  have c2 := hb.cell 2
  have hn : ((e : Int) == 0) = false := by simp; omega
  have hn2 : ((e : Int) != 0) = true := by simp; omega
  clear hb he
  go_enter Try.func34, Try.ntmps34
  go_wp2
  go_ret
  exact ⟨rfl, rfl⟩
/-- A number was taken. -/
def Taken (g : Nat) (A : Option Addr) (l c at' : Nat) (r : Nat × Nat × Nat) (w : World) (e : Ending) (w' : World) : Prop :=
  e = .returned (.int .u64 (r.1 : Int)) ∧ Cut w' g A l c (at' + r.2.1) r.2.2 ∧ w.grownBy w' (some g)
set_option maxRecDepth 100000 in
set_option maxHeartbeats 1000000 in
theorem cnum_any (g : Nat) (A : Option Addr) (l c at' : Nat) (xs : List UInt8) (w : World) (hb : Cut w g A l c at' 0) (hr : Reads w w.heap.size 1 A l (u8s xs)) (hl : l ≤ c) (hc : c ≤ maxLen) (hat : at' ≤ l) :
    Calls Try.prog 34 #[.pointer (some ⟨g, 0, none⟩)] w (Taken g A l c at' (get (xs.drop at')) w) := by
  have c0 := hb.cell 0
  have c1 := hb.cell 1
  have c2 := hb.cell 2
  have f1 := hb.frozen 1
  have f2 := hb.frozen 2
  have hcut := hr.cut (k := at') (cap := c) hat hl
  rw [Nat.mul_one, u8s_drop] at hcut
  have hrl := reads_len hr
  have hgs := get_size (xs.drop at')
  rw [List.length_drop, hrl] at hgs
  unfold maxLen at hc
  have hL0 : ∀ w', w' = w.drew → w'.cell? ⟨g, 0, none⟩ = some (.slice A l c) := fun w' h => by rw [h]; exact c0
  have hL1 : ∀ w', w' = w.drew → w'.cell? ⟨g, 1, none⟩ = some (.int .i64 (at' : Int)) := fun w' h => by rw [h]; exact c1
  have HL0 := Lib.hid hL0
  have HL1 := Lib.hid hL1
  obtain ⟨hg1, hg2, -⟩ := hgs
  have Hb := Lib.hid hb
  clear hL0 hL1 hrl hb
  have hac : at' ≤ c := by omega
  go_enter Try.func34, Try.ntmps34
  go_wp2
  have hS : w.drew = w.drew := rfl
  refine wp_region_keep (fun w' => w' = w.drew) [(0, false), (1, false), (2, false), (3, false), (4, false), (5, false), (6, false), (7, false), (8, false), (9, true), (10, false), (11, false), (12, false), (13, false), (14, false), (15, false), (16, false)] (by kernel_rfl) (by kernel_rfl) (by kernel_rfl) (fun d _ _ _ _ h => by cases d <;> exact h) ?_
  refine held_pure (v := ?_) rfl rfl (by simp [Region.wanted, yielded]) hS ?_ ?_
  rotate_left
  · intro w hw; go_simp; try with_reducible rfl
  try simp only [Act.put, List.setIfInBounds_toArray, List.set_cons_succ, List.set_cons_zero]
  refine held_pure (v := ?_) rfl rfl (by simp [Region.wanted, yielded]) hS ?_ ?_
  rotate_left
  · intro w hw; go_simp; try with_reducible rfl
  try simp only [Act.put, List.setIfInBounds_toArray, List.set_cons_succ, List.set_cons_zero]
  refine held_pure (v := ?_) rfl rfl (by simp [Region.wanted, yielded]) hS ?_ ?_
  rotate_left
  · intro w hw; go_simp; try with_reducible rfl
  try simp only [Act.put, List.setIfInBounds_toArray, List.set_cons_succ, List.set_cons_zero]
  refine held_pure (v := ?_) rfl rfl (by simp [Region.wanted, yielded]) hS ?_ ?_
  rotate_left
  · intro w hw; have c0 := HL0.out w hw; go_simp; try with_reducible rfl
  try simp only [Act.put, List.setIfInBounds_toArray, List.set_cons_succ, List.set_cons_zero]
  refine held_pure (v := ?_) rfl rfl (by simp [Region.wanted, yielded]) hS ?_ ?_
  rotate_left
  · intro w hw; go_simp; try with_reducible rfl
  try simp only [Act.put, List.setIfInBounds_toArray, List.set_cons_succ, List.set_cons_zero]
  refine held_pure (v := ?_) rfl rfl (by simp [Region.wanted, yielded]) hS ?_ ?_
  rotate_left
  · intro w hw; go_simp; try with_reducible rfl
  try simp only [Act.put, List.setIfInBounds_toArray, List.set_cons_succ, List.set_cons_zero]
  refine held_pure (v := ?_) rfl rfl (by simp [Region.wanted, yielded]) hS ?_ ?_
  rotate_left
  · intro w hw; go_simp; try with_reducible rfl
  try simp only [Act.put, List.setIfInBounds_toArray, List.set_cons_succ, List.set_cons_zero]
  refine held_pure (v := ?_) rfl rfl (by simp [Region.wanted, yielded]) hS ?_ ?_
  rotate_left
  · intro w hw; have c0 := HL1.out w hw; go_simp; try with_reducible rfl
  try simp only [Act.put, List.setIfInBounds_toArray, List.set_cons_succ, List.set_cons_zero]
  refine held_pure (v := ?_) rfl rfl (by simp [Region.wanted, yielded]) hS ?_ ?_
  rotate_left
  · intro w hw; go_simp; try with_reducible rfl
  try simp only [Act.put, List.setIfInBounds_toArray, List.set_cons_succ, List.set_cons_zero]
  refine held_eff1 rfl (by simp [Region.wanted, yielded]) fun K hK => ?_
  go_simp
  generalize (if c = at' then A else Option.map (fun x => x.add at') A) = A' at hcut ⊢
  with_reducible refine (get_any _ _ _ (xs.drop at') _ hcut.drew (by omega) (by simp only [maxLen]; omega)).mono ?_
  rintro e w3 ⟨rfl, rfl⟩
  generalize hget : get (xs.drop at') = r at hg1 hg2 ⊢
  obtain ⟨rn, rk, re⟩ := r
  have Hget := Lib.hid hget
  clear hget
  simp only [gotten] at hg1 hg2 ⊢
  refine held_go hK (by exact rfl) fun hS => ?_
  clear hK K
  try simp only [Act.put, List.setIfInBounds_toArray, List.set_cons_succ, List.set_cons_zero]
  refine held_pure (v := ?_) rfl rfl (by simp [Region.wanted, yielded]) hS ?_ ?_
  rotate_left
  · intro w hw; go_simp; try with_reducible rfl
  try simp only [Act.put, List.setIfInBounds_toArray, List.set_cons_succ, List.set_cons_zero]
  refine held_pure (v := ?_) rfl rfl (by simp [Region.wanted, yielded]) hS ?_ ?_
  rotate_left
  · intro w hw; go_simp; try with_reducible rfl
  try simp only [Act.put, List.setIfInBounds_toArray, List.set_cons_succ, List.set_cons_zero]
  refine held_pure (v := ?_) rfl rfl (by simp [Region.wanted, yielded]) hS ?_ ?_
  rotate_left
  · intro w hw; go_simp; try with_reducible rfl
  try simp only [Act.put, List.setIfInBounds_toArray, List.set_cons_succ, List.set_cons_zero]
  refine held_pure (v := ?_) rfl rfl (by simp [Region.wanted, yielded]) hS ?_ ?_
  rotate_left
  · intro w hw; go_simp; try with_reducible rfl
  try simp only [Act.put, List.setIfInBounds_toArray, List.set_cons_succ, List.set_cons_zero]
  refine held_pure (v := ?_) rfl rfl (by simp [Region.wanted, yielded]) hS ?_ ?_
  rotate_left
  · intro w hw; go_simp; try with_reducible rfl
  try simp only [Act.put, List.setIfInBounds_toArray, List.set_cons_succ, List.set_cons_zero]
  refine held_pure (v := ?_) rfl rfl (by simp [Region.wanted, yielded]) hS ?_ ?_
  rotate_left
  · intro w hw; go_simp; try with_reducible rfl
  try simp only [Act.put, List.setIfInBounds_toArray, List.set_cons_succ, List.set_cons_zero]
  refine held_pure (v := ?_) rfl rfl (by simp [Region.wanted, yielded]) hS ?_ ?_
  rotate_left
  · intro w hw; go_simp; try with_reducible rfl
  try simp only [Act.put, List.setIfInBounds_toArray, List.set_cons_succ, List.set_cons_zero]
  refine held_end ?_
  clear hS
  go_wp2
  go_ret
  rw [Hget.out]
  have hb2 := (Hb.out.set_ 1 (.int .i64 ((at' : Int) + (rk : Int)))).set_ 2 (.int .i64 (re : Int))
  refine ⟨rfl, ?_, ?_⟩
  · have e : ((at' + rk : Nat) : Int) = (at' : Int) + (rk : Int) := by omega
    simp only [e]
    exact hb2.drew
  · exact (grown_drew w _).trans ((grown_set w.drew g 1 _).trans (grown_set _ g 2 _))
end Go.Proofs.Ytckaohkhknoocaa
