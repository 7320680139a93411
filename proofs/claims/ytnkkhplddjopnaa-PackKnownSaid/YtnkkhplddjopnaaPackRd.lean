/- Layer 3, walked: what the program's reader takes. -/
import Derived.Test.YtnkkhplddjopnaaPackTake
set_option linter.unusedVariables false
set_option linter.unusedSimpArgs false
namespace Go.Proofs.Ytnkkhplddjopnaa
open Go.RowKit
theorem zag0 : zag 0 = 0 := by simp [zag]
/-- What an asked reader does: its answer, and where it stands then. -/
def Asked (g : Nat) (xs : List UInt8) (v : Value) (p e : Nat) (w : World) (e' : Ending) (w' : World) : Prop :=
  e' = .returned v ∧ w.grownBy w' (some g) ∧ PRd w' g xs p e
theorem asked_same {g : Nat} {xs : List UInt8} {v : Value} {p e : Nat} {w : World} (h : PRd w g xs p e) : Asked g xs v p e w (.returned v) w := ⟨rfl, ⟨rfl, rfl, rfl, Nat.le_refl _, fun _ _ _ => rfl⟩, h⟩
theorem Asked.from_ {g : Nat} {xs : List UInt8} {v : Value} {p e : Nat} {w w1 : World} {e' : Ending} {w' : World} (h : Asked g xs v p e w1 e' w') (hb : Below w.heap.size w w1) : Asked g xs v p e w e' w' :=
  ⟨h.1, (below_grown hb).trans h.2.1, h.2.2⟩
def varA (xs : List UInt8) (p e : Nat) : Nat × Nat × Nat :=
  if e ≠ 0 then (0, p, e) else if (get (xs.drop p)).2.2 ≠ 0 then (0, p, (get (xs.drop p)).2.2) else ((get (xs.drop p)).1, p + (get (xs.drop p)).2.1, 0)
theorem get_size3 (xs : List UInt8) : (get xs).2.1 ≤ xs.length ∧ (get xs).2.2 < 11 ∧ (get xs).1 < 18446744073709551616 ∧ ((get xs).2.2 ≠ 0 → (get xs).1 = 0) := by
  rcases get_only xs with ⟨n, h, h1, h2, h3⟩ | ⟨e, h, h1, h2⟩
  · rw [h]
    exact ⟨h2, show 0 < 11 from by decide, h1, fun h => absurd rfl h⟩
  · rw [h]
    exact ⟨Nat.zero_le _, h2, show 0 < 18446744073709551616 from by decide, fun _ => rfl⟩
set_option maxRecDepth 100000 in
set_option maxHeartbeats 400000 in
theorem pvar_any (g : Nat) (xs : List UInt8) (p e : Nat) (w : World) (h : PRd w g xs p e) (hl : xs.length ≤ 9223372036854775807) :
    Calls Try.prog 53 #[.pointer (some ⟨g, 0, none⟩)] w (Asked g xs (.int .u64 ((varA xs p e).1 : Int)) (varA xs p e).2.1 (varA xs p e).2.2 w) := by
  have H := Lib.hid h
  clear h
  by_cases he : e = 0
  · subst he
    have hv : varA xs p 0 = varA xs p 0 := rfl
    conv at hv => rhs; unfold varA; rw [if_neg (by simp)]
    obtain ⟨s1, s2, s3, s4⟩ := get_size3 (xs.drop p)
    have hld : (xs.drop p).length = xs.length - p := List.length_drop
    rw [hld] at s1
    have hread := fun (A : Option Addr) (c : Nat) (hr : Reads w w.heap.size 1 A (xs.length - p) (u8s (xs.drop p))) (h1 : xs.length - p ≤ c) (h2 : c ≤ maxLen) => get_any A (xs.length - p) c (xs.drop p) w hr h1 h2
    generalize get (xs.drop p) = r at hv s1 s2 s3 s4 hread
    obtain ⟨rn, rk, re⟩ := r
    simp only [gotten] at hv s1 s2 s3 s4 hread
    have Hv := Lib.hid hv
    have Hread := Lib.hid hread
    clear hv hread hld s3
    go_enter Try.func53, Try.ntmps53
    go_wp2_with fail
    with_reducible refine (takeU_any g xs p (if re ≠ 0 then .error re else .ok rk) (fun v _ => v = .int .u64 (rn : Int)) _ H.out hl (fun v w1 w2 h _ _ => h) ?_).mono ?_
    · intro A c hr h1 h2
      refine (Hread.out A c hr h1 h2).mono ?_
      rintro e w' ⟨rfl, rfl⟩
      refine ⟨Below.refl _ _, ?_⟩
      by_cases hre : re = 0
      · subst hre
        exact .inr ⟨_, rk, rfl, s1, rfl, rfl⟩
      · exact .inl ⟨re, _, _, hre, by rw [if_pos hre], rfl⟩
    · rintro e w2 ⟨hg, hcase⟩
      rcases hcase with ⟨er, her, hres, rfl, hp⟩ | ⟨v, n, hres, rfl, rfl, hpn, hp⟩
      · have hre : re ≠ 0 ∧ er = re := by
          split at hres
          · rename_i h; injection hres with hres; exact ⟨h, hres.symm⟩
          · cases hres
        have hv := Hv.out
        rw [if_pos hre.1] at hv
        have Hv2 := Lib.hid hv
        obtain rfl := hre.2
        clear hres hv hre her s4
        go_wp2
        go_ret
        rw [Hv2.out]
        exact ⟨rfl, hg, hp⟩
      · have hre : re = 0 ∧ n = rk := by
          split at hres
          · cases hres
          · rename_i h; injection hres with hres; exact ⟨by simpa using h, hres.symm⟩
        have hv := Hv.out
        rw [if_neg (by simp [hre.1])] at hv
        have Hv2 := Lib.hid hv
        obtain rfl := hre.2
        clear hres hv hre s4
        go_wp2
        go_ret
        rw [Hv2.out]
        exact ⟨rfl, hg, hp⟩
  · have hv : varA xs p e = (0, p, e) := by unfold varA; rw [if_pos he]
    rw [hv]
    have He := Lib.hid he
    clear hv he
    go_enter Try.func53, Try.ntmps53
    go_wp2_with fail
    with_reducible refine (takeU_err g xs p e _ _ H.out He.out).mono ?_
    rintro e w' ⟨rfl, rfl⟩
    go_wp2
    go_ret
    exact asked_same H.out
set_option maxRecDepth 100000 in
set_option maxHeartbeats 400000 in
theorem pint_any (g : Nat) (xs : List UInt8) (p e : Nat) (w : World) (h : PRd w g xs p e) (hl : xs.length ≤ 9223372036854775807) :
    Calls Try.prog 54 #[.pointer (some ⟨g, 0, none⟩)] w (Asked g xs (.int .i64 (zag (varA xs p e).1)) (varA xs p e).2.1 (varA xs p e).2.2 w) := by
  have H := Lib.hid h
  clear h
  by_cases he : e = 0
  · subst he
    have hv : varA xs p 0 = varA xs p 0 := rfl
    conv at hv => rhs; unfold varA; rw [if_neg (by simp)]
    obtain ⟨s1, s2, s3, s4⟩ := get_size3 (xs.drop p)
    have hld : (xs.drop p).length = xs.length - p := List.length_drop
    rw [hld] at s1
    have hread := fun (A : Option Addr) (c : Nat) (hr : Reads w w.heap.size 1 A (xs.length - p) (u8s (xs.drop p))) (h1 : xs.length - p ≤ c) (h2 : c ≤ maxLen) => getInt_any A (xs.length - p) c (xs.drop p) w hr h1 h2
    generalize get (xs.drop p) = r at hv s1 s2 s3 s4 hread
    obtain ⟨rn, rk, re⟩ := r
    simp only [gottenInt] at hv s1 s2 s3 s4 hread
    have Hv := Lib.hid hv
    have Hread := Lib.hid hread
    clear hv hread hld s3
    go_enter Try.func54, Try.ntmps54
    go_wp2_with fail
    with_reducible refine (takeI_any g xs p (if re ≠ 0 then .error re else .ok rk) (fun v _ => v = .int .i64 (zag rn)) _ H.out hl (fun v w1 w2 h _ _ => h) ?_).mono ?_
    · intro A c hr h1 h2
      refine (Hread.out A c hr h1 h2).mono ?_
      rintro e w' ⟨rfl, rfl⟩
      refine ⟨Below.refl _ _, ?_⟩
      by_cases hre : re = 0
      · subst hre
        exact .inr ⟨_, rk, rfl, s1, rfl, rfl⟩
      · exact .inl ⟨re, _, _, hre, by rw [if_pos hre], rfl⟩
    · rintro e w2 ⟨hg, hcase⟩
      rcases hcase with ⟨er, her, hres, rfl, hp⟩ | ⟨v, n, hres, rfl, rfl, hpn, hp⟩
      · have hre : re ≠ 0 ∧ er = re := by
          split at hres
          · rename_i h; injection hres with hres; exact ⟨h, hres.symm⟩
          · cases hres
        have hv := Hv.out
        rw [if_pos hre.1] at hv
        have Hv2 := Lib.hid hv
        obtain rfl := hre.2
        clear hres hv hre her s4
        go_wp2
        go_ret
        rw [Hv2.out]
        exact ⟨by simp only [zag0]; rfl, hg, hp⟩
      · have hre : re = 0 ∧ n = rk := by
          split at hres
          · cases hres
          · rename_i h; injection hres with hres; exact ⟨by simpa using h, hres.symm⟩
        have hv := Hv.out
        rw [if_neg (by simp [hre.1])] at hv
        have Hv2 := Lib.hid hv
        obtain rfl := hre.2
        clear hres hv hre s4
        go_wp2
        go_ret
        rw [Hv2.out]
        exact ⟨rfl, hg, hp⟩
  · have hv : varA xs p e = (0, p, e) := by unfold varA; rw [if_pos he]
    rw [hv]
    simp only [zag0]
    have He := Lib.hid he
    clear hv he
    go_enter Try.func54, Try.ntmps54
    go_wp2_with fail
    with_reducible refine (takeI_err g xs p e _ _ H.out He.out).mono ?_
    rintro e w' ⟨rfl, rfl⟩
    go_wp2
    go_ret
    exact asked_same H.out
/-- What Raw takes. -/
def rawE (n : Int) (r : List UInt8) : Except Nat Nat := if n < 0 then .error 6 else if (r.length : Int) < n then .error 3 else .ok n.toNat
def RawG (base : Nat) (n : Int) (r : List UInt8) (v : Value) (w : World) : Prop :=
  ∃ (A : Option Addr) (c : Nat), v = .slice A n.toNat c ∧ n.toNat ≤ c ∧ c ≤ maxLen ∧ w.ownsRow base 5 1 (.slice A n.toNat c) n.toNat (u8s (r.take n.toNat))
set_option maxRecDepth 100000 in
set_option maxHeartbeats 1000000 in
theorem some1_any (A : Option Addr) (m c : Nat) (r : List UInt8) (n : Int) (ca : Addr) (w : World) (hr : Reads w w.heap.size 1 A m (u8s r)) (hm : m ≤ c) (hc : c ≤ maxLen) (hcell : w.cell? ca = some (.int .i64 n)) (hcb : ca.block < w.heap.size) (hm2 : m ≤ 1099511627776) :
    Calls Try.prog 80 #[.slice A m c, .pointer (some ca)] w (ReadP (rawE n r) m (RawG w.heap.size n r) w) := by
  have hrl := reads_len hr
  unfold maxLen at hc
  by_cases h1 : n < 0
  · have hE : rawE n r = .error 6 := by unfold rawE; rw [if_pos h1]
    rw [hE]
    clear hE
    go_enter Try.func80, Try.ntmps80
    go_wp2
    go_ret3
    exact ⟨Below.refl _ _, .inl ⟨6, _, _, by decide, rfl, rfl⟩⟩
  · obtain ⟨k, rfl⟩ := Int.eq_ofNat_of_zero_le (by omega : 0 ≤ n)
    by_cases h2 : m < k
    · have hE : rawE (k : Int) r = .error 3 := by unfold rawE; rw [if_neg (by omega), if_pos (by omega)]
      rw [hE]
      have db : decide ((m : Int) < (k : Int)) = true := by simp; omega
      clear hE hrl
      go_enter Try.func80, Try.ntmps80
      go_wp2
      go_ret3
      exact ⟨Below.refl _ _, .inl ⟨3, _, _, by decide, rfl, rfl⟩⟩
    · have hE : rawE (k : Int) r = .ok k := by unfold rawE; rw [if_neg (by omega), if_neg (by omega)]; rfl
      rw [hE]
      have db : decide ((m : Int) < (k : Int)) = false := by simp; omega
      have hkm : k ≤ m := by omega
      have hkc : k ≤ c := by omega
      have hhead := hr.head (k := k) hkm
      rw [Nat.mul_one, u8s_take] at hhead
      have hL := Lib.hid (show ∀ w', Below w.heap.size w w' → w'.cell? ca = some (.int .i64 (k : Int)) from fun w' h => by rw [h.cell (p := ca) hcb]; exact hcell)
      have Hlt := Lib.hid (reads_len hhead)
      clear hE hrl
      go_enter Try.func80, Try.ntmps80
      go_wp2
      have hS : Below w.heap.size w w.drew := (Below.refl _ _).drew
      refine wp_region_keep (Below w.heap.size w) [(0, false), (1, false), (2, false), (4, false), (3, true), (5, false), (6, false), (7, false)] (by kernel_rfl) (by kernel_rfl) (by kernel_rfl) (fun d _ _ _ _ h => by cases d <;> exact h) ?_
      refine held_pure (v := ?_) rfl rfl (by simp [Region.wanted, yielded]) hS ?_ ?_
      rotate_left
      · intro w hw; go_simp; try with_reducible rfl
      try simp only [Act.put, List.setIfInBounds_toArray, List.set_cons_succ, List.set_cons_zero]
      refine held_pure (v := ?_) rfl rfl (by simp [Region.wanted, yielded]) hS ?_ ?_
      rotate_left
      · intro w hw; have c0 := hL.out w hw; clear hw; go_simp; try with_reducible rfl
      try simp only [Act.put, List.setIfInBounds_toArray, List.set_cons_succ, List.set_cons_zero]
      refine held_pure (v := ?_) rfl rfl (by simp [Region.wanted, yielded]) hS ?_ ?_
      rotate_left
      · intro w hw; go_simp; try with_reducible rfl
      try simp only [Act.put, List.setIfInBounds_toArray, List.set_cons_succ, List.set_cons_zero]
      refine held_pure (v := ?_) rfl rfl (by simp [Region.wanted, yielded]) hS ?_ ?_
      rotate_left
      · intro w hw; have c0 := hL.out w hw; clear hw; go_simp; try with_reducible rfl
      try simp only [Act.put, List.setIfInBounds_toArray, List.set_cons_succ, List.set_cons_zero]
      refine held_eff1 rfl (by simp [Region.wanted, yielded]) fun K hK => ?_
      go_simp
      with_reducible refine (clone_any A k c (r.take k) _ hhead.drew (by omega)).mono ?_
      rintro e w2 ⟨A2, c2, rfl, g1, g2, o2, hb2⟩
      rw [Hlt.out] at g1 o2 ⊢
      refine held_go hK (by exact bon hS hb2) fun hS => ?_
      clear hK K
      try simp only [Act.put, List.setIfInBounds_toArray, List.set_cons_succ, List.set_cons_zero]
      refine held_pure (v := ?_) rfl rfl (by simp [Region.wanted, yielded]) hS ?_ ?_
      rotate_left
      · intro w hw; go_simp; try with_reducible rfl
      try simp only [Act.put, List.setIfInBounds_toArray, List.set_cons_succ, List.set_cons_zero]
      refine held_pure (v := ?_) rfl rfl (by simp [Region.wanted, yielded]) hS ?_ ?_
      rotate_left
      · intro w hw; go_simp; try with_reducible rfl
      try simp only [Act.put, List.setIfInBounds_toArray, List.set_cons_succ, List.set_cons_zero]
      refine held_pure (v := ?_) rfl rfl (by simp [Region.wanted, yielded]) hS ?_ ?_
      rotate_left
      · intro w hw; go_simp; try with_reducible rfl
      try simp only [Act.put, List.setIfInBounds_toArray, List.set_cons_succ, List.set_cons_zero]
      refine held_end ?_
      have hB := hS
      clear hS
      go_wp2
      go_ret3
      exact ⟨hB, .inr ⟨_, k, rfl, hkm, ⟨A2, c2, rfl, g1, g2, o2⟩, rfl⟩⟩
end Go.Proofs.Ytnkkhplddjopnaa
