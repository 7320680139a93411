/- Layer 3, walked: NewReader and Fail of the program; the document's reader: rest, Left, End, Fail, NewReader. -/
import Derived.Test.YtnkkhplddjopnaaPackText
set_option linter.unusedVariables false
set_option linter.unusedSimpArgs false
namespace Go.Proofs.Ytnkkhplddjopnaa
open Go.RowKit
theorem PRd.err {w : World} {g : Nat} {xs : List UInt8} {p e : Nat} (h : PRd w g xs p e) (n : Nat) : PRd (w.setCell ⟨g, 3, none⟩ (.int .i64 (n : Int))) g xs p n := by
  obtain ⟨h0, A, c, h1, h2, h3, h4, h5⟩ := h
  exact ⟨h0, A, c, h1.set_ 3 (.int .i64 (n : Int)), h2.other3 (grown_set3 w g 3 _) h3, h3, h4, h5⟩
def failA (e n : Nat) : Nat := if e = 0 then n else e
set_option maxRecDepth 100000 in
theorem pfail_any (g : Nat) (xs : List UInt8) (p e n : Nat) (w : World) (h : PRd w g xs p e) :
    Calls Try.prog 34 #[.pointer (some ⟨g, 0, none⟩), .int .i64 (n : Int)] w (Asked g xs (.tuple #[]) p (failA e n) w) := by
  have H := Lib.hid h
  obtain ⟨h0, A, c, h1, h2, h3, h4, h5⟩ := h
  have f3 := h1.frozen 3
  have d3 := h1.cell 3
  clear h0 h1 h2 h3 h4 h5
  by_cases he : e = 0
  · subst he
    have hv : failA 0 n = n := by unfold failA; rw [if_pos rfl]
    rw [hv]
    clear hv
    go_enter Try.func34, Try.ntmps34
    go_wp2_with fail
    with_reducible refine (perr_any g xs p 0 _ H.out).mono ?_
    rintro e w' ⟨rfl, rfl⟩
    go_wp2
    go_end0
    exact ⟨rfl, grown_set3 w g 3 _, H.out.err n⟩
  · have hv : failA e n = e := by unfold failA; rw [if_neg he]
    rw [hv]
    have hn : ((e : Int) == 0) = false := by simp; omega
    clear hv he
    go_enter Try.func34, Try.ntmps34
    go_wp2_with fail
    with_reducible refine (perr_any g xs p e _ H.out).mono ?_
    rintro e w' ⟨rfl, rfl⟩
    go_wp2
    go_end0
    exact asked_same H.out
set_option maxRecDepth 100000 in
theorem pnew_any (A : Option Addr) (n c : Nat) (l : List UInt8) (w : World) (hr : Reads w w.heap.size 1 A n (u8s l)) (hn : n ≤ 35184372088832) :
    Calls Try.prog 22 #[.slice A n c] w fun e w' => ∃ g, e = .returned (.pointer (some ⟨g, 0, none⟩)) ∧ w.heap.size ≤ g ∧ PRd w' g l 0 0 ∧ Below w.heap.size w w' := by
  have Hcall := Lib.hid (clone_any A n c l w hr hn)
  unfold Copied at Hcall
  go_enter Try.func22, Try.ntmps22
  go_wp2_with fail
  with_reducible refine (Hcall.out).mono ?_
  rintro e w1 ⟨A1, c1, rfl, g1, g2, o1, hb1⟩
  have hs1 := hb1.size
  have hr1 := own_reads o1
  clear o1
  go_wp2
  go_ret
  refine ⟨_, rfl, hs1, ⟨Nat.zero_le _, A1, c1, Blk.new _ _ _, hr1.al _, ?_, by simpa using g1, g2⟩, hb1.trans (((Below.refl _ _).alloc (Nat.le_refl _) _).mono hs1)⟩
  intro h0 ad hA
  obtain ⟨ad2, hA2, hlt, _⟩ := hr1.2 (by simpa using h0)
  rw [hA] at hA2
  cases hA2
  omega
/-- A reader of the document's. -/
def RRd (w : World) (g : Nat) (xs : List UInt8) (p e : Nat) : Prop :=
  p ≤ xs.length ∧ ∃ (A : Option Addr) (c : Nat), Blk w g 56 #[.slice A xs.length c, .int .i64 (p : Int), .int .i64 (e : Int)] ∧ Reads w w.heap.size 1 A xs.length (u8s xs) ∧ (0 < xs.length → ∀ ad, A = some ad → ad.block < g) ∧ xs.length ≤ c ∧ c ≤ maxLen
theorem RRd.lt {w : World} {g : Nat} {xs : List UInt8} {p e : Nat} (h : RRd w g xs p e) : g < w.heap.size := by
  obtain ⟨_, A, c, h1, _⟩ := h
  exact h1.lt
theorem RRd.on {w w' : World} {g : Nat} {xs : List UInt8} {p e : Nat} (h : RRd w g xs p e) (hb : Below w.heap.size w w') : RRd w' g xs p e := by
  obtain ⟨h0, A, c, h1, h2, h3⟩ := h
  exact ⟨h0, A, c, h1.on hb, h2.on hb, h3⟩
theorem RRd.err {w : World} {g : Nat} {xs : List UInt8} {p e : Nat} (h : RRd w g xs p e) (n : Nat) : RRd (w.setCell ⟨g, 2, none⟩ (.int .i64 (n : Int))) g xs p n := by
  obtain ⟨h0, A, c, h1, h2, h3, h4, h5⟩ := h
  exact ⟨h0, A, c, h1.set_ 2 (.int .i64 (n : Int)), h2.other3 (grown_set3 w g 2 _) h3, h3, h4, h5⟩
theorem RRd.to {w : World} {g : Nat} {xs : List UInt8} {p e : Nat} (h : RRd w g xs p e) (q : Nat) (hq : q ≤ xs.length) : RRd (w.setCell ⟨g, 1, none⟩ (.int .i64 (q : Int))) g xs q e := by
  obtain ⟨h0, A, c, h1, h2, h3, h4, h5⟩ := h
  exact ⟨hq, A, c, h1.set_ 1 (.int .i64 (q : Int)), h2.other3 (grown_set3 w g 1 _) h3, h3, h4, h5⟩
/-- What an asked reader of the document's does. -/
def RAsked (g : Nat) (xs : List UInt8) (v : Value) (p e : Nat) (w : World) (e' : Ending) (w' : World) : Prop :=
  e' = .returned v ∧ w.grownBy w' (some g) ∧ RRd w' g xs p e
/-- What stands from its place on. -/
def RestP (xs : List UInt8) (p : Nat) (w : World) (e' : Ending) (w' : World) : Prop :=
  ∃ (A : Option Addr) (c : Nat), e' = .returned (.slice A (xs.length - p) c) ∧ xs.length - p ≤ c ∧ c ≤ maxLen ∧ Reads w' w'.heap.size 1 A (xs.length - p) (u8s (xs.drop p)) ∧ Below w.heap.size w w'
set_option maxRecDepth 100000 in
set_option maxHeartbeats 400000 in
theorem rrest_any (g : Nat) (xs : List UInt8) (p e : Nat) (w : World) (h : RRd w g xs p e) :
    Calls Try.prog 63 #[.pointer (some ⟨g, 0, none⟩)] w (RestP xs p w) := by
  obtain ⟨h0, A, c, h1, h2, h3, h4, h5⟩ := h
  have c0 := h1.cell 0
  have c1 := h1.cell 1
  have HL0 := Lib.hid (show ∀ w', w' = w.drew → w'.cell? ⟨g, 0, none⟩ = some (.slice A xs.length c) from fun w' h => by rw [h]; exact c0)
  have HL1 := Lib.hid (show ∀ w', w' = w.drew → w'.cell? ⟨g, 1, none⟩ = some (.int .i64 (p : Int)) from fun w' h => by rw [h]; exact c1)
  have hcut := h2.cut (k := p) (cap := c) h0 h4
  rw [Nat.mul_one, u8s_drop] at hcut
  generalize hA2 : (if c = p then A else Option.map (fun x => x.add p) A) = A2 at hcut
  have Hcut := Lib.hid hcut.drew
  unfold RestP
  generalize xs.length = n at *
  have hpc : p ≤ c := by omega
  clear h1 h2 h3 hcut c0 c1
  go_enter Try.func63, Try.ntmps63
  go_wp2
  have hS : w.drew = w.drew := rfl
  refine wp_region_keep (fun w' => w' = w.drew) [(0, false), (1, false), (2, false), (3, false), (4, false), (5, false), (6, false), (7, false), (8, false), (9, false)] (by kernel_rfl) (by kernel_rfl) (by kernel_rfl) (fun d _ _ _ _ h => by cases d <;> exact h) ?_
  refine held_pure (v := ?_) rfl rfl (by simp [Region.wanted, yielded]) hS ?_ ?_
  rotate_left
  · intro w hw; go_simp; try with_reducible rfl
  try simp only [Act.put, List.setIfInBounds_toArray, List.set_cons_succ, List.set_cons_zero]
  refine held_pure (v := ?_) rfl rfl (by simp [Region.wanted, yielded]) hS ?_ ?_
  rotate_left
  · intro w hw; go_simp; try with_reducible rfl
  try simp only [Act.put, List.setIfInBounds_toArray, List.set_cons_succ, List.set_cons_zero]
  refine held_pure (v := ?_) rfl rfl (by simp [Region.wanted, yielded]) hS ?_ ?_
  rotate_left
  · intro w hw; go_simp; try with_reducible rfl
  try simp only [Act.put, List.setIfInBounds_toArray, List.set_cons_succ, List.set_cons_zero]
  refine held_pure (v := ?_) rfl rfl (by simp [Region.wanted, yielded]) hS ?_ ?_
  rotate_left
  · intro w hw; have c0 := HL0.out w hw; clear hw; go_simp; try with_reducible rfl
  try simp only [Act.put, List.setIfInBounds_toArray, List.set_cons_succ, List.set_cons_zero]
  refine held_pure (v := ?_) rfl rfl (by simp [Region.wanted, yielded]) hS ?_ ?_
  rotate_left
  · intro w hw; go_simp; try with_reducible rfl
  try simp only [Act.put, List.setIfInBounds_toArray, List.set_cons_succ, List.set_cons_zero]
  refine held_pure (v := ?_) rfl rfl (by simp [Region.wanted, yielded]) hS ?_ ?_
  rotate_left
  · intro w hw; go_simp; try with_reducible rfl
  try simp only [Act.put, List.setIfInBounds_toArray, List.set_cons_succ, List.set_cons_zero]
  refine held_pure (v := ?_) rfl rfl (by simp [Region.wanted, yielded]) hS ?_ ?_
  rotate_left
  · intro w hw; go_simp; try with_reducible rfl
  try simp only [Act.put, List.setIfInBounds_toArray, List.set_cons_succ, List.set_cons_zero]
  refine held_pure (v := ?_) rfl rfl (by simp [Region.wanted, yielded]) hS ?_ ?_
  rotate_left
  · intro w hw; have c0 := HL1.out w hw; clear hw; go_simp; try with_reducible rfl
  try simp only [Act.put, List.setIfInBounds_toArray, List.set_cons_succ, List.set_cons_zero]
  refine held_pure (v := ?_) rfl rfl (by simp [Region.wanted, yielded]) hS ?_ ?_
  rotate_left
  · intro w hw; go_simp; try with_reducible rfl
  try simp only [Act.put, List.setIfInBounds_toArray, List.set_cons_succ, List.set_cons_zero]
  refine held_pure (v := ?_) rfl rfl (by simp [Region.wanted, yielded]) hS ?_ ?_
  rotate_left
  · intro w hw; go_simp; try with_reducible rfl
  try simp only [Act.put, List.setIfInBounds_toArray, List.set_cons_succ, List.set_cons_zero]
  refine held_end ?_
  clear hS
  go_wp2
  go_ret
  exact ⟨A2, c - p, rfl, by omega, by omega, Hcut.out, (Below.refl _ _).drew⟩
end Go.Proofs.Ytnkkhplddjopnaa
