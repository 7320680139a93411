import Derived.Test.YtnkkhplddjopnaaLeb
set_option linter.unusedVariables false
set_option linter.unusedSimpArgs false
namespace Go.Proofs.Ytnkkhplddjopnaa
open Go.RowKit
theorem pow_cast (k : Nat) : (2 : Int) ^ (7 * k) = ((128 ^ k : Nat) : Int) := by
  rw [Int.natCast_pow, Int.pow_mul]; rfl
theorem or_join (acc x k : Nat) (h : acc < 128 ^ k) : acc ||| x * 128 ^ k = acc + x * 128 ^ k := by
  have e : (128 : Nat) ^ k = 2 ^ (7 * k) := by rw [Nat.pow_mul]
  rw [e] at h ⊢
  rw [Nat.or_comm, nat_join (7 * k) _ _ (Nat.mul_mod_left _ _) h, Nat.add_comm]
theorem get_last (acc b k : Nat) (hk : k ≤ 9) (h : acc < 128 ^ k) (hb : b < 128) (h9 : k = 9 → b ≤ 1) :
    bits .or .u64 (acc : Int) (IntKind.u64.wrap ((b : Int) * 2 ^ (7 * k))) = ((acc + b * 128 ^ k : Nat) : Int) := by
  have e9 : (128 : Nat) ^ 9 = 9223372036854775808 := by decide
  have h64 : b * 128 ^ k < 18446744073709551616 := by
    rcases Nat.lt_or_ge k 9 with hlt | hge
    · have h8 : 128 ^ k ≤ 128 ^ 8 := Nat.pow_le_pow_right (by omega) (by omega)
      have e8 : (128 : Nat) ^ 8 = 72057594037927936 := by decide
      have := Nat.mul_le_mul (Nat.le_of_lt_succ hb : b ≤ 127) h8
      rw [e8] at this
      omega
    · obtain rfl : k = 9 := by omega
      have := h9 rfl
      rw [e9]
      omega
  have hacc : acc < 18446744073709551616 := by
    have : 128 ^ k ≤ 128 ^ 9 := Nat.pow_le_pow_right (by omega) hk
    omega
  have e : ((b : Int) * ((128 ^ k : Nat) : Int)) = ((b * 128 ^ k : Nat) : Int) := by rw [Int.natCast_mul]
  rw [pow_cast, e, IntKind.wrap_u64]
  generalize hx : b * 128 ^ k = x at h64 ⊢
  have em : (x : Int) % 18446744073709551616 = (x : Int) := by omega
  rw [em, u64_or_nat _ _ hacc h64, ← hx, or_join _ _ _ h]
theorem get_nine (acc b : Nat) (h : acc < 128 ^ 9) (hb : b ≤ 1) : bits .or .u64 (acc : Int) ((b : Int) * 9223372036854775808) = ((acc + b * 128 ^ 9 : Nat) : Int) := by
  rw [← get_last acc b 9 (by omega) h (by omega) (fun _ => hb)]
  congr 1
  have e : (2 : Int) ^ (7 * 9) = 9223372036854775808 := by decide
  rw [e, IntKind.wrap_u64]
  omega
theorem get_more (acc b k : Nat) (hk : k ≤ 8) (h : acc < 128 ^ k) (hb : b < 256) :
    bits .or .u64 (acc : Int) (IntKind.u64.wrap (IntKind.u64.wrap (bits .andNot .u8 (b : Int) 128) * 2 ^ (7 * k))) = ((acc + b % 128 * 128 ^ k : Nat) : Int) := by
  have h2 : ∀ k, k < 256 → k &&& (255 - 128) = k % 128 := by decide +kernel
  rw [show (128 : Int) = ((128 : Nat) : Int) from rfl, u8_andNot_nat b 128 hb (by omega), h2 b hb]
  have : IntKind.u64.wrap ((b % 128 : Nat) : Int) = ((b % 128 : Nat) : Int) := by rw [IntKind.wrap_u64]; omega
  rw [this]
  exact get_last acc (b % 128) k (by omega) h (by omega) (by omega)
theorem get_step (xs : List UInt8) (k acc : Nat) (b : UInt8) (h : get xs = getL (xs.drop k) k acc) (hb : xs[k]? = some b) :
    get xs = if k = 9 ∧ 1 < b.toNat then (0, 0, 6) else if 0 < k ∧ b.toNat = 0 then (0, 0, 10) else if b.toNat < 128 then (acc + b.toNat * 128 ^ k, k + 1, 0) else getL (xs.drop (k + 1)) (k + 1) (acc + b.toNat % 128 * 128 ^ k) := by
  rw [h]
  obtain ⟨hlt, rfl⟩ := List.getElem?_eq_some_iff.1 hb
  rw [List.drop_eq_getElem_cons hlt]
  rfl
theorem get_end (xs : List UInt8) (k acc : Nat) (h : get xs = getL (xs.drop k) k acc) (hb : xs.length ≤ k) : get xs = (0, 0, 3) := by
  rw [h, List.drop_of_length_le hb]; rfl
theorem acc_more (acc k x : Nat) (h : acc < 128 ^ k) (hx : x < 128) : acc + x * 128 ^ k < 128 ^ (k + 1) := by
  rw [Nat.pow_succ]
  have : x * 128 ^ k ≤ 127 * 128 ^ k := Nat.mul_le_mul_right _ (by omega)
  omega
/-- What Get hands back. -/
def gotten (r : Nat × Nat × Nat) : Ending := .returned (.tuple #[.int .u64 (r.1 : Int), .int .i64 (r.2.1 : Int), .int .i64 (r.2.2 : Int)])
set_option maxRecDepth 100000 in
set_option maxHeartbeats 400000 in
theorem get_any (A : Option Addr) (l c : Nat) (xs : List UInt8) (w : World) (hr : Reads w w.heap.size 1 A l (u8s xs)) (hl : l ≤ c) (hc : c ≤ maxLen) :
    Calls Try.prog 74 #[.slice A l c] w fun e w' => e = gotten (get xs) ∧ w = w' := by
  unfold maxLen at hc
  have Hlen := Lib.hid (show xs.length = l by have := hr.1; simpa using this)
  go_enter Try.func74, Try.ntmps74
  go_wp2
  go_loop [2, 10] (fun u i => ∃ (k acc : Nat), k ≤ 9 ∧ k ≤ l ∧ i = .int .i64 (k : Int) ∧ u = .int .u64 (acc : Int) ∧ Hid (acc < 128 ^ k) ∧ Hid (get xs = getL (xs.drop k) k acc)) (fun _ i => 10 - (intOf i).toNat)
  case atStart => exact ⟨0, 0, by omega, by omega, rfl, rfl, by show (0:Nat) < 1; omega, rfl⟩
  case round =>
    obtain ⟨k, acc, hk9, hkl, rfl, rfl, Hacc, Hget⟩ := hrel
    by_cases hlt : k < l
    · obtain ⟨ad, v, rfl, _, hx, hcell⟩ := hr.at_ hlt
      obtain ⟨b, hb, rfl⟩ := u8s_get xs k v hx
      have Hstep := Lib.hid (get_step xs k acc b Hget.out hb)
      clear hx hb
      have hb256 : b.toNat < 256 := b.toNat_lt
      have t0 : ((b.toNat : Int) == 0) = true → b.toNat = 0 := fun h => by simpa using h
      have f0 : ((b.toNat : Int) == 0) = false → b.toNat ≠ 0 := fun h => by simpa using h
      have T0 := Lib.hid t0
      have F0 := Lib.hid f0
      clear t0 f0
      go_wp2
      · go_ret3
        exact ⟨by rw [Hstep.out, if_pos ⟨by omega, by omega⟩]; rfl, rfl⟩
      · go_ret3
        have h0 := T0.out (by assumption)
        exact ⟨by rw [Hstep.out, if_neg (by omega), if_pos ⟨by omega, h0⟩]; rfl, rfl⟩
      · go_ret3
        have h0 := F0.out (by assumption)
        have h9 : k = 9 := by omega
        refine ⟨?_, rfl⟩
        subst h9
        have hl := get_nine acc b.toNat Hacc.out (by omega)
        rw [Hstep.out, if_neg (by omega), if_neg (by omega), if_pos (by omega), gotten, ← hl]
        rfl
      · go_ret3
        have h0 := T0.out (by assumption)
        exact ⟨by rw [Hstep.out, if_neg (by omega), if_pos ⟨by omega, h0⟩]; rfl, rfl⟩
      · go_ret3
        have h0 := F0.out (by assumption)
        have hl := get_last acc b.toNat k hk9 Hacc.out (by omega) (by omega)
        exact ⟨by rw [Hstep.out, if_neg (by omega), if_neg (by omega), if_pos (by omega), gotten, ← hl]; rfl, rfl⟩
      · have h0 := F0.out (by assumption)
        have hl := get_more acc b.toNat k (by omega) Hacc.out (by omega)
        go_round
        case rel => exact ⟨k + 1, _, by omega, by omega, by go_num, by rw [hl], acc_more _ _ _ Hacc.out (by omega), by rw [Hstep.out, if_neg (by omega), if_neg (by omega), if_neg (by omega)]; rfl⟩
        case measure => simp [intOf]; omega
      · go_ret3
        have hl := get_last acc b.toNat k hk9 Hacc.out (by omega) (by omega)
        exact ⟨by rw [Hstep.out, if_neg (by omega), if_neg (by omega), if_pos (by omega), gotten, ← hl]; rfl, rfl⟩
      · have hl := get_more acc b.toNat k (by omega) Hacc.out (by omega)
        go_round
        case rel => exact ⟨k + 1, _, by omega, by omega, by go_num, by rw [hl], acc_more _ _ _ Hacc.out (by omega), by rw [Hstep.out, if_neg (by omega), if_neg (by omega), if_neg (by omega)]; rfl⟩
        case measure => simp [intOf]; omega
    · go_wp2
      go_ret3
      exact ⟨by rw [get_end xs k acc Hget.out (by rw [Hlen.out]; omega)]; rfl, rfl⟩

theorem pow_le8 (k : Nat) (hk : k ≤ 8) : 128 ^ k ≤ 72057594037927936 := by
  have h8 : 128 ^ k ≤ 128 ^ 8 := Nat.pow_le_pow_right (by omega) hk
  have e8 : (128 : Nat) ^ 8 = 72057594037927936 := by decide
  omega
theorem refget_more (acc b k : Nat) (hk : k ≤ 8) (h : acc < 128 ^ k) (hb : b < 256) :
    IntKind.u64.wrap ((acc : Int) + IntKind.u64.wrap ((b : Int) % 128 * (128 : Int) ^ k)) = ((acc + b % 128 * 128 ^ k : Nat) : Int) := by
  have h8 := pow_le8 k hk
  have e : ((b : Int) % 128 * (128 : Int) ^ k) = ((b % 128 * 128 ^ k : Nat) : Int) := by rw [Int.natCast_mul, Int.natCast_pow]; rfl
  rw [e, IntKind.wrap_u64, IntKind.wrap_u64]
  have : b % 128 * 128 ^ k ≤ 127 * 72057594037927936 := Nat.mul_le_mul (by omega) h8
  omega
theorem refget_last (acc b k : Nat) (hk : k ≤ 8) (h : acc < 128 ^ k) (hb : b < 128) :
    IntKind.u64.wrap ((acc : Int) + IntKind.u64.wrap ((b : Int) % 128 * (128 : Int) ^ k)) = ((acc + b * 128 ^ k : Nat) : Int) := by
  rw [refget_more acc b k hk h (by omega), Nat.mod_eq_of_lt hb]
theorem refget_nine (acc b : Nat) (h : acc < 128 ^ 9) (hb : b ≤ 1) :
    IntKind.u64.wrap ((acc : Int) + (b : Int) % 128 * 9223372036854775808) = ((acc + b * 128 ^ 9 : Nat) : Int) := by
  have e9 : (128 : Nat) ^ 9 = 9223372036854775808 := by decide
  rw [e9] at h ⊢
  rw [IntKind.wrap_u64]
  omega
theorem refget_pow (k : Nat) (hk : k ≤ 8) : Value.int .u64 (IntKind.u64.wrap ((128 : Int) ^ k * 128)) = Value.int .u64 ((128 : Int) ^ (k + 1)) := by
  have h8 := pow_le8 k hk
  have e : (128 : Int) ^ k = ((128 ^ k : Nat) : Int) := by rw [Int.natCast_pow]; rfl
  rw [IntKind.wrap_u64, Int.pow_succ, e]
  generalize 128 ^ k = q at h8 ⊢
  congr 1
  omega
set_option maxRecDepth 100000 in
set_option maxHeartbeats 400000 in
theorem refGet_any (A : Option Addr) (l c : Nat) (xs : List UInt8) (w : World) (hr : Reads w w.heap.size 1 A l (u8s xs)) (hl : l ≤ c) (hc : c ≤ maxLen) :
    Calls Try.prog 78 #[.slice A l c] w fun e w' => e = gotten (get xs) ∧ w = w' := by
  unfold maxLen at hc
  have Hlen := Lib.hid (show xs.length = l by have := hr.1; simpa using this)
  go_enter Try.func78, Try.ntmps78
  go_wp2
  go_loop [5, 6, 7] (fun u p i => ∃ (k acc : Nat), k ≤ 9 ∧ k ≤ l ∧ i = .int .i64 (k : Int) ∧ u = .int .u64 (acc : Int) ∧ p = .int .u64 ((128 : Int) ^ k) ∧ Hid (acc < 128 ^ k) ∧ Hid (get xs = getL (xs.drop k) k acc)) (fun _ _ i => 10 - (intOf i).toNat)
  case atStart => exact ⟨0, 0, by omega, by omega, rfl, rfl, rfl, by show (0:Nat) < 1; omega, rfl⟩
  case round =>
    obtain ⟨k, acc, hk9, hkl, rfl, rfl, rfl, Hacc, Hget⟩ := hrel
    by_cases hlt : k < l
    · obtain ⟨ad, v, rfl, _, hx, hcell⟩ := hr.at_ hlt
      obtain ⟨b, hb, rfl⟩ := u8s_get xs k v hx
      have Hstep := Lib.hid (get_step xs k acc b Hget.out hb)
      clear hx hb
      have hb256 : b.toNat < 256 := b.toNat_lt
      have t0 : ((b.toNat : Int) == 0) = true → b.toNat = 0 := fun h => by simpa using h
      have f0 : ((b.toNat : Int) == 0) = false → b.toNat ≠ 0 := fun h => by simpa using h
      have T0 := Lib.hid t0
      have F0 := Lib.hid f0
      clear t0 f0
      by_cases h9 : k = 9
      · subst h9
        have hcell9 : w.cell? ⟨ad.block, ad.off + 9, none⟩ = some (.int .u8 (b.toNat : Int)) := by simpa [Addr.add] using hcell
        clear hcell
        go_wp2
        · go_ret3
          exact ⟨by rw [Hstep.out, if_pos ⟨trivial, by omega⟩]; rfl, rfl⟩
        · go_ret3
          have h0 := T0.out (by assumption)
          exact ⟨by rw [Hstep.out, if_neg (by omega), if_pos ⟨by omega, h0⟩]; rfl, rfl⟩
        · have h0 := F0.out (by assumption)
          have hl := refget_nine acc b.toNat Hacc.out (by omega)
          go_ret3
          exact ⟨by rw [Hstep.out, if_neg (by omega), if_neg (by omega), if_pos (by omega), gotten, ← hl]; rfl, rfl⟩
      · go_wp2
        · go_ret3
          have h0 := T0.out (by assumption)
          exact ⟨by rw [Hstep.out, if_neg (by omega), if_pos ⟨by omega, h0⟩]; rfl, rfl⟩
        · go_ret3
          have h0 := F0.out (by assumption)
          have hl := refget_last acc b.toNat k (by omega) Hacc.out (by omega)
          exact ⟨by rw [Hstep.out, if_neg (by omega), if_neg (by omega), if_pos (by omega), gotten, ← hl]; rfl, rfl⟩
        · have h0 := F0.out (by assumption)
          have hl := refget_more acc b.toNat k (by omega) Hacc.out (by omega)
          go_round
          case rel => exact ⟨k + 1, _, by omega, by omega, by go_num, by rw [hl], refget_pow k (by omega), acc_more _ _ _ Hacc.out (by omega), by rw [Hstep.out, if_neg (by omega), if_neg (by omega), if_neg (by omega)]; rfl⟩
          case measure => simp [intOf]; omega
        · go_ret3
          have hl := refget_last acc b.toNat k (by omega) Hacc.out (by omega)
          exact ⟨by rw [Hstep.out, if_neg (by omega), if_neg (by omega), if_pos (by omega), gotten, ← hl]; rfl, rfl⟩
        · have hl := refget_more acc b.toNat k (by omega) Hacc.out (by omega)
          go_round
          case rel => exact ⟨k + 1, _, by omega, by omega, by go_num, by rw [hl], refget_pow k (by omega), acc_more _ _ _ Hacc.out (by omega), by rw [Hstep.out, if_neg (by omega), if_neg (by omega), if_neg (by omega)]; rfl⟩
          case measure => simp [intOf]; omega
    · go_wp2
      go_ret3
      exact ⟨by rw [get_end xs k acc Hget.out (by rw [Hlen.out]; omega)]; rfl, rfl⟩
end Go.Proofs.Ytnkkhplddjopnaa
