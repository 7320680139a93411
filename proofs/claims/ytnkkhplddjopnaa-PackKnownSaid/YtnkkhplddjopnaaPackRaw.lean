/- Layer 3, walked: the program's reader: Raw, Byte, Word. -/
import Derived.Test.YtnkkhplddjopnaaPackRd
set_option linter.unusedVariables false
set_option linter.unusedSimpArgs false
namespace Go.Proofs.Ytnkkhplddjopnaa
open Go.RowKit
theorem own_low {w w' : World} {base size n g : Nat} {e : TypeId} {v : Value} {xs : List Value} (h : w.ownsRow base e size v n xs) (hlt : g < base) (hg : w.grownBy w' (some g)) : w'.ownsRow base e size v n xs := by
  refine h.kept hg ?_
  rcases h.2 with ⟨rfl, h0⟩ | ⟨g2, cap, cur, rfl, h1, h2, h3⟩
  · exact .inl rfl
  · right
    simp only [Value.ownBlock, ne_eq, Option.some.injEq]
    omega
theorem RawG.keep {base g : Nat} {n : Int} {r : List UInt8} {v : Value} {w1 w2 : World} (h : RawG base n r v w1) (hlt : g < base) (hg : w1.grownBy w2 (some g)) : RawG base n r v w2 := by
  obtain ⟨A, c, h1, h2, h3, h4⟩ := h
  exact ⟨A, c, h1, h2, h3, own_low h4 hlt hg⟩
set_option maxRecDepth 100000 in
theorem some_any (n : Int) (w : World) :
    Calls Try.prog 65 #[.int .i64 n] w fun e w' => e = .returned (.func (.func 80) #[] #[.pointer (some ⟨w.heap.size, 0, none⟩)]) ∧ Below w.heap.size w w' ∧ w.heap.size < w'.heap.size ∧ w'.cell? ⟨w.heap.size, 0, none⟩ = some (.int .i64 n) := by
  go_enter Try.func65, Try.ntmps65
  go_wp2
  go_ret
  exact ⟨rfl, (Below.refl _ _).alloc (Nat.le_refl _) _, by simp, by simp⟩
def rawA (xs : List UInt8) (p e : Nat) (n : Int) : List UInt8 × Nat × Nat :=
  if e ≠ 0 then ([], p, e) else match rawE n (xs.drop p) with
    | .error er => ([], p, er)
    | .ok k => ((xs.drop p).take k, p + k, 0)
/-- What Raw does. -/
def RawP (g : Nat) (xs : List UInt8) (p e : Nat) (n : Int) (w : World) (e' : Ending) (w' : World) : Prop :=
  ∃ (A : Option Addr) (c : Nat), e' = .returned (.slice A (rawA xs p e n).1.length c) ∧ (rawA xs p e n).1.length ≤ c ∧ c ≤ maxLen ∧ w'.ownsRow w.heap.size 5 1 (.slice A (rawA xs p e n).1.length c) (rawA xs p e n).1.length (u8s (rawA xs p e n).1) ∧ w.grownBy w' (some g) ∧ PRd w' g xs (rawA xs p e n).2.1 (rawA xs p e n).2.2
theorem rawE_ok {n : Int} {r : List UInt8} {k : Nat} (h : rawE n r = .ok k) : 0 ≤ n ∧ k = n.toNat ∧ k ≤ r.length := by
  unfold rawE at h
  split at h
  · cases h
  · split at h
    · cases h
    · injection h with h
      omega
set_option maxRecDepth 100000 in
set_option maxHeartbeats 400000 in
theorem praw_any (g : Nat) (xs : List UInt8) (p e : Nat) (n : Int) (w : World) (h : PRd w g xs p e) (hl : xs.length ≤ 1099511627776) :
    Calls Try.prog 32 #[.pointer (some ⟨g, 0, none⟩), .int .i64 n] w (RawP g xs p e n w) := by
  have hglt := h.lt
  have H := Lib.hid h
  clear h
  go_enter Try.func32, Try.ntmps32
  go_wp2_with fail
  with_reducible refine (some_any n _).mono ?_
  rintro e w1 ⟨rfl, hb1, hlt1, hc1⟩
  have H1 := Lib.hid (H.out.on hb1)
  by_cases he : e = 0
  · subst he
    go_wp2_with fail
    with_reducible refine (takeB_any g xs p (rawE n (xs.drop p)) (RawG w1.heap.size n (xs.drop p)) ⟨w.heap.size, 0, none⟩ w1 H1.out (by omega) (fun v a b h _ hg => h.keep (by omega) hg) ?_).mono ?_
    · intro A c hr h1 h2
      exact some1_any A (xs.length - p) c (xs.drop p) n ⟨w.heap.size, 0, none⟩ w1 hr h1 h2 hc1 hlt1 (by omega)
    · rintro e w2 ⟨hg, hcase⟩
      have hg0 : w.grownBy w2 (some g) := (below_grown hb1).trans hg
      rcases hcase with ⟨er, her, hres, rfl, hp⟩ | ⟨v, k, hres, ⟨A, c, rfl, g1, g2, g3⟩, rfl, hpn, hp⟩
      · have hv : rawA xs p 0 n = ([], p, er) := by unfold rawA; rw [if_neg (by simp), hres]
        have Hv := Lib.hid hv
        clear hv hres her hc1 hlt1
        go_wp2
        go_ret
        unfold RawP
        rw [Hv.out]
        exact ⟨none, 0, rfl, Nat.le_refl _, by simp [maxLen], World.ownsRow_nil _ _ _ _, hg0, hp⟩
      · have hv : rawA xs p 0 n = ((xs.drop p).take k, p + k, 0) := by unfold rawA; rw [if_neg (by simp), hres]
        obtain ⟨k1, k2, k3⟩ := rawE_ok hres
        have hlen : ((xs.drop p).take k).length = k := by rw [List.length_take]; omega
        have Hv := Lib.hid hv
        have Hlen := Lib.hid hlen
        rw [← k2] at g1 g3
        rw [← k2]
        clear hv hres hc1 hlt1 hlen k2 k3
        go_wp2
        go_ret
        unfold RawP
        rw [Hv.out]
        simp only []
        rw [Hlen.out]
        exact ⟨A, c, rfl, g1, g2, own_mono g3 hb1.size, hg0, hp⟩
  · have hv : rawA xs p e n = ([], p, e) := by unfold rawA; rw [if_pos he]
    have Hv := Lib.hid hv
    have He := Lib.hid he
    clear hv he
    go_wp2_with fail
    with_reducible refine (takeB_err g xs p e _ _ H1.out He.out).mono ?_
    rintro e w2 ⟨rfl, rfl⟩
    have hg0 : w.grownBy w1 (some g) := below_grown hb1
    clear hc1 hlt1
    go_wp2
    go_ret
    unfold RawP
    rw [Hv.out]
    exact ⟨none, 0, rfl, Nat.le_refl _, by simp [maxLen], World.ownsRow_nil _ _ _ _, hg0, H1.out⟩
theorem rawA_len (xs : List UInt8) (p e : Nat) (k : Nat) : (rawA xs p e (k : Int)).1.length = 0 ∨ (rawA xs p e (k : Int)).1.length = k := by
  unfold rawA
  split
  · exact .inl rfl
  · rcases hr : rawE (k : Int) (xs.drop p) with er | j
    · exact .inl rfl
    · right
      obtain ⟨_, h2, h3⟩ := rawE_ok hr
      simp only [List.length_take]
      omega
theorem rawA_pos (xs : List UInt8) (p e : Nat) (n : Int) (hp : p ≤ xs.length) : p ≤ (rawA xs p e n).2.1 ∧ (rawA xs p e n).2.1 ≤ xs.length ∧ (rawA xs p e n).1.length ≤ xs.length := by
  unfold rawA
  split
  · exact ⟨Nat.le_refl _, hp, Nat.zero_le _⟩
  · rcases hr : rawE n (xs.drop p) with er | j
    · exact ⟨Nat.le_refl _, hp, Nat.zero_le _⟩
    · obtain ⟨_, _, h3⟩ := rawE_ok hr
      rw [List.length_drop] at h3
      refine ⟨Nat.le_add_right _ _, by simp only []; omega, ?_⟩
      simp only [List.length_take, List.length_drop]
      omega
/-- The last byte of a text, or 0. -/
def lastB (l : List UInt8) (k : Nat) : Nat := if k = 0 then 0 else (l[k - 1]?.map UInt8.toNat).getD 0
theorem lastB_succ {l : List UInt8} {k : Nat} {b : UInt8} (h : l[k]? = some b) : lastB l (k + 1) = b.toNat := by
  unfold lastB
  rw [if_neg (by omega), Nat.add_sub_cancel, h]
  rfl
def byteA (xs : List UInt8) (p e : Nat) : Nat × Nat × Nat := (lastB (rawA xs p e 1).1 (rawA xs p e 1).1.length, (rawA xs p e 1).2)
set_option maxRecDepth 100000 in
set_option maxHeartbeats 400000 in
theorem pbyte_any (g : Nat) (xs : List UInt8) (p e : Nat) (w : World) (h : PRd w g xs p e) (hl : xs.length ≤ 1099511627776) :
    Calls Try.prog 51 #[.pointer (some ⟨g, 0, none⟩)] w (Asked g xs (.int .u8 ((byteA xs p e).1 : Int)) (byteA xs p e).2.1 (byteA xs p e).2.2 w) := by
  have hcall := praw_any g xs p e 1 w h hl
  have hpos := rawA_pos xs p e 1 h.1
  unfold RawP at hcall
  unfold byteA
  clear h
  generalize rawA xs p e 1 = r at *
  obtain ⟨l, p2, e2⟩ := r
  simp only [] at hcall hpos ⊢
  have hll : l.length ≤ 1099511627776 := by omega
  obtain ⟨n, hn⟩ : ∃ n, l.length = n := ⟨_, rfl⟩
  rw [hn] at hcall hll ⊢
  have Hn := Lib.hid hn
  have Hcall := Lib.hid hcall
  clear hn hcall hpos
  go_enter Try.func51, Try.ntmps51
  go_wp2_with fail
  with_reducible refine (Hcall.out).mono ?_
  rintro e w2 ⟨A, c, rfl, g1, g2, g3, hg, hp⟩
  have hr2 := own_reads g3
  clear g3
  go_wp2
  go_loopw [2, 6] (fun b i wr => ∃ k : Nat, k ≤ n ∧ i = .int .i64 (k : Int) ∧ b = .int .u8 ((lastB l k : Nat) : Int) ∧ wr = w2) (fun b i _ => n - (intOf i).toNat)
  case atStart => exact ⟨0, Nat.zero_le _, rfl, rfl, rfl⟩
  case round =>
    obtain ⟨k, hk, rfl, rfl, rfl⟩ := hrel
    by_cases hlt : k < n
    · obtain ⟨ad, u, rfl, had, hu, hcell⟩ := hr2.at_ hlt
      obtain ⟨z, hz1, rfl⟩ := u8s_get _ _ _ hu
      have Hz := Lib.hid hz1
      clear hu hz1
      go_wp2
      go_roundw
      case rel => exact ⟨k + 1, by omega, by go_num, by rw [lastB_succ Hz.out], trivial⟩
      case measure => simp [intOf]; omega
    · obtain rfl : k = n := by omega
      go_wp2
      go_ret
      exact ⟨rfl, hg, hp⟩
/-- The number of four bytes, the lowest first. -/
def wordN : List UInt8 → Nat
  | [] => 0
  | b :: l => b.toNat + 256 * wordN l
theorem wordN_snoc (l : List UInt8) (b : UInt8) : wordN (l ++ [b]) = wordN l + b.toNat * 256 ^ l.length := by
  induction l with
  | nil => simp [wordN]
  | cons a l ih => 
    simp only [List.cons_append, wordN, ih, List.length_cons, Nat.pow_succ]
    have h : b.toNat * (256 ^ l.length * 256) = 256 * (b.toNat * 256 ^ l.length) := by rw [← Nat.mul_assoc, Nat.mul_comm]
    rw [h]
    omega
theorem wordN_lt (l : List UInt8) : wordN l < 256 ^ l.length := by
  induction l with
  | nil => simp [wordN]
  | cons a l ih =>
    have := a.toNat_lt
    simp only [wordN, List.length_cons, Nat.pow_succ]
    omega
theorem word_or (a z k : Nat) (ha : a < 256 ^ k) (hk : k < 4) (hz : z < 256) : bits .or .u32 (a : Int) ((z : Int) % 4294967296 * 2 ^ (8 * k) % 4294967296) = ((a + z * 256 ^ k : Nat) : Int) := by
  have hp : (2 : Int) ^ (8 * k) = ((256 ^ k : Nat) : Int) := by rw [Int.natCast_pow, Int.pow_mul]; rfl
  have h3 : 256 ^ k ≤ 256 ^ 3 := Nat.pow_le_pow_right (by omega) (by omega)
  have e3 : (256 : Nat) ^ 3 = 16777216 := by decide
  have hm := Nat.mul_le_mul (Nat.le_of_lt_succ hz : z ≤ 255) h3
  rw [e3] at hm
  have e : ((z : Int) * ((256 ^ k : Nat) : Int)) = ((z * 256 ^ k : Nat) : Int) := by rw [Int.natCast_mul]
  have ej : a ||| z * 256 ^ k = a + z * 256 ^ k := by
    have e2 : (256 : Nat) ^ k = 2 ^ (8 * k) := by rw [Nat.pow_mul]
    rw [e2] at ha ⊢
    rw [Nat.or_comm, nat_join (8 * k) _ _ (Nat.mul_mod_left _ _) ha, Nat.add_comm]
  rw [hp, show (z : Int) % 4294967296 = (z : Int) from by omega, e]
  generalize z * 256 ^ k = x at *
  rw [show (x : Int) % 4294967296 = (x : Int) from by omega, u32_or_nat _ _ (by omega) (by omega), ej]
def wordA (xs : List UInt8) (p e : Nat) : Nat × Nat × Nat := (wordN (rawA xs p e 4).1, (rawA xs p e 4).2)
set_option maxRecDepth 100000 in
set_option maxHeartbeats 400000 in
theorem pword_any (g : Nat) (xs : List UInt8) (p e : Nat) (w : World) (h : PRd w g xs p e) (hl : xs.length ≤ 1099511627776) :
    Calls Try.prog 55 #[.pointer (some ⟨g, 0, none⟩)] w (Asked g xs (.int .u32 ((wordA xs p e).1 : Int)) (wordA xs p e).2.1 (wordA xs p e).2.2 w) := by
  have hcall := praw_any g xs p e 4 w h hl
  have hpos := rawA_len xs p e 4
  rw [show ((4 : Nat) : Int) = 4 from rfl] at hpos
  unfold RawP at hcall
  unfold wordA
  clear h
  generalize rawA xs p e 4 = r at *
  obtain ⟨l, p2, e2⟩ := r
  simp only [] at hcall hpos ⊢
  have hll : l.length ≤ 4 := by omega
  obtain ⟨n, hn⟩ : ∃ n, l.length = n := ⟨_, rfl⟩
  rw [hn] at hcall hll
  have Hn := Lib.hid hn
  have Hcall := Lib.hid hcall
  clear hn hcall hpos
  go_enter Try.func55, Try.ntmps55
  go_wp2_with fail
  with_reducible refine (Hcall.out).mono ?_
  rintro e w2 ⟨A, c, rfl, g1, g2, g3, hg, hp⟩
  have hr2 := own_reads g3
  clear g3
  go_wp2
  go_loopw [2, 3, 4, 8] (fun m _ _ i wr => ∃ k : Nat, k ≤ n ∧ i = .int .i64 (k : Int) ∧ m = .int .u32 ((wordN (l.take k) : Nat) : Int) ∧ wr = w2) (fun m _ _ i _ => n - (intOf i).toNat)
  case atStart => exact ⟨0, Nat.zero_le _, rfl, rfl, rfl⟩
  case round =>
    obtain ⟨k, hk, rfl, rfl, rfl⟩ := hrel
    by_cases hlt : k < n
    · obtain ⟨ad, u, rfl, had, hu, hcell⟩ := hr2.at_ hlt
      obtain ⟨z, hz1, rfl⟩ := u8s_get _ _ _ hu
      have Hz := Lib.hid hz1
      clear hu hz1
      go_wp2
      go_roundw
      case rel =>
        have hlen := Hn.out
        have hlt4 := wordN_lt (l.take k)
        have hlk : (l.take k).length = k := by rw [List.length_take]; omega
        rw [hlk] at hlt4
        refine ⟨k + 1, by omega, by go_num, ?_, trivial⟩
        rw [word_or _ _ _ hlt4 (by omega) z.toNat_lt, List.take_add_one, Hz.out, Option.toList_some, wordN_snoc, hlk]
      case measure => simp [intOf]; omega
    · obtain rfl : k = n := by omega
      go_wp2
      go_ret
      exact ⟨by rw [List.take_of_length_le (by rw [Hn.out]; exact Nat.le_refl _)]; rfl, hg, hp⟩
end Go.Proofs.Ytnkkhplddjopnaa
