/- Part 1 of the walks, merged: each text under its own heading. Conditions: none of its own; each lemma states what it asks. -/
import Derived.Test.YtegcbjkikhheiaaGreatDoorGm23
import Derived.Lib.ValidLaws
import Derived.Lib.SlicesS
import Derived.Deep.LoopGhost
import Derived.WalkKit
set_option linter.unusedVariables false
set_option linter.unusedSimpArgs false
namespace Go.Proofs.YtegcbjkikhheiaaGreatDoor
open Go.RowKit
def okR (r : Nat) : Bool := decide (r < 55296 ∨ (57343 < r ∧ r ≤ 1114111))
def hitR (n : Nat) (l : List UInt8) : Bool := decide (n ≤ l.length) && okR (numR (nats (l.take n))) && decide (encR (numR (nats (l.take n))) = nats (l.take n))
theorem hit1 (n a b c d : Nat) (ha : a < 256) (h : encR (numR [a]) = [a]) : Lib.decodeN n a b c d = (a, 1) ∧ a < 128 := by
  simp only [numR, headR, List.foldl_nil, List.length_nil] at h
  simp only [Nat.zero_add, Nat.reduceEqDiff, if_false] at h
  have h128 : a < 128 := by
    unfold encR at h
    split at h
    · assumption
    · split at h
      · simp at h
      · omega
  unfold Lib.decodeN
  rw [if_pos h128]
  exact ⟨rfl, h128⟩
theorem hit3 (n a b c d : Nat) (hn : 3 ≤ n) (ha : a < 256) (hb : b < 256) (hc : c < 256) (ho : okR (numR [a, b, c]) = true) (h : encR (numR [a, b, c]) = [a, b, c]) : (Lib.decodeN n a b c d).2 = 3 := by
  have hr : numR [a, b, c] = 64 * (64 * (a % 16) + b % 64) + c % 64 := by simp [numR, headR]
  rw [hr] at h ho
  generalize hrr : 64 * (64 * (a % 16) + b % 64) + c % 64 = r at h ho
  simp only [okR, decide_eq_true_eq] at ho
  unfold encR at h
  split at h
  · simp at h
  · split at h
    · simp at h
    · split at h
      · simp only [List.cons.injEq, and_true] at h
        unfold Lib.decodeN
        rw [if_neg (by omega), if_neg (by omega), if_pos (by omega), if_pos (by omega)]
      · simp at h
theorem hit4 (n a b c d : Nat) (hn : 4 ≤ n) (ha : a < 256) (hb : b < 256) (hc : c < 256) (hd : d < 256) (ho : okR (numR [a, b, c, d]) = true) (h : encR (numR [a, b, c, d]) = [a, b, c, d]) : (Lib.decodeN n a b c d).2 = 4 := by
  have hr : numR [a, b, c, d] = 64 * (64 * (64 * (a % 8) + b % 64) + c % 64) + d % 64 := by simp [numR, headR]
  rw [hr] at h ho
  generalize hrr : 64 * (64 * (64 * (a % 8) + b % 64) + c % 64) + d % 64 = r at h ho
  simp only [okR, decide_eq_true_eq] at ho
  unfold encR at h
  split at h
  · simp at h
  · split at h
    · simp at h
    · split at h
      · simp at h
      · simp only [List.cons.injEq, and_true] at h
        unfold Lib.decodeN
        rw [if_neg (by omega), if_neg (by omega), if_neg (by omega), if_pos (by omega), if_pos (by omega)]
theorem decode_hit (n a b c d : Nat) (ha : a < 256) (hb : b < 256) (hc : c < 256) (hd : d < 256) (hv : ¬ ((Lib.decodeN n a b c d).1 = 65533 ∧ (Lib.decodeN n a b c d).2 = 1)) :
    ((Lib.decodeN n a b c d).2 = 1 ∧ okR (numR [a]) = true ∧ encR (numR [a]) = [a]) ∨ ((Lib.decodeN n a b c d).2 = 2 ∧ 2 ≤ n ∧ okR (numR [a, b]) = true ∧ encR (numR [a, b]) = [a, b]) ∨
    ((Lib.decodeN n a b c d).2 = 3 ∧ 3 ≤ n ∧ okR (numR [a, b, c]) = true ∧ encR (numR [a, b, c]) = [a, b, c]) ∨ ((Lib.decodeN n a b c d).2 = 4 ∧ 4 ≤ n ∧ okR (numR [a, b, c, d]) = true ∧ encR (numR [a, b, c, d]) = [a, b, c, d]) := by
  have r1 : numR [a] = a := rfl
  have r2 : numR [a, b] = 64 * (a % 32) + b % 64 := by simp [numR, headR]
  have r3 : numR [a, b, c] = 64 * (64 * (a % 16) + b % 64) + c % 64 := by simp [numR, headR]
  have r4 : numR [a, b, c, d] = 64 * (64 * (64 * (a % 8) + b % 64) + c % 64) + d % 64 := by simp [numR, headR]
  rw [r1, r2, r3, r4]
  unfold Lib.decodeN at hv ⊢
  simp only [okR, decide_eq_true_eq]
  by_cases h1 : a < 128
  · rw [if_pos h1] at hv ⊢
    left
    refine ⟨rfl, by omega, ?_⟩
    unfold encR
    rw [if_pos h1]
  · rw [if_neg h1] at hv ⊢
    by_cases h2 : a / 32 = 6 ∧ (1 < n ∧ b / 64 = 2)
    · rw [if_pos h2] at hv ⊢
      by_cases h3 : a % 32 * 64 + b % 64 ≥ 128
      · rw [if_pos h3] at hv ⊢
        right; left
        refine ⟨rfl, by omega, by omega, ?_⟩
        unfold encR
        rw [if_neg (by omega), if_pos (by omega)]
        simp only [List.cons.injEq, and_true]
        omega
      · rw [if_neg h3] at hv
        exact absurd ⟨rfl, rfl⟩ hv
    · rw [if_neg h2] at hv ⊢
      by_cases h3 : a / 16 = 14 ∧ (1 < n ∧ b / 64 = 2) ∧ (2 < n ∧ c / 64 = 2)
      · rw [if_pos h3] at hv ⊢
        by_cases h4 : a % 16 * 4096 + b % 64 * 64 + c % 64 ≥ 2048 ∧ (a % 16 * 4096 + b % 64 * 64 + c % 64 < 55296 ∨ (57344 ≤ a % 16 * 4096 + b % 64 * 64 + c % 64 ∧ a % 16 * 4096 + b % 64 * 64 + c % 64 ≤ 1114111))
        · rw [if_pos h4] at hv ⊢
          right; right; left
          refine ⟨rfl, by omega, by omega, ?_⟩
          unfold encR
          rw [if_neg (by omega), if_neg (by omega), if_pos (by omega)]
          simp only [List.cons.injEq, and_true]
          omega
        · rw [if_neg h4] at hv
          exact absurd ⟨rfl, rfl⟩ hv
      · rw [if_neg h3] at hv ⊢
        by_cases h4 : a / 8 = 30 ∧ (1 < n ∧ b / 64 = 2) ∧ (2 < n ∧ c / 64 = 2) ∧ (3 < n ∧ d / 64 = 2)
        · rw [if_pos h4] at hv ⊢
          by_cases h5 : a % 8 * 262144 + b % 64 * 4096 + c % 64 * 64 + d % 64 ≥ 65536 ∧ (a % 8 * 262144 + b % 64 * 4096 + c % 64 * 64 + d % 64 < 55296 ∨ (57344 ≤ a % 8 * 262144 + b % 64 * 4096 + c % 64 * 64 + d % 64 ∧ a % 8 * 262144 + b % 64 * 4096 + c % 64 * 64 + d % 64 ≤ 1114111))
          · rw [if_pos h5] at hv ⊢
            right; right; right
            refine ⟨rfl, by omega, by omega, ?_⟩
            unfold encR
            rw [if_neg (by omega), if_neg (by omega), if_neg (by omega)]
            simp only [List.cons.injEq, and_true]
            omega
          · rw [if_neg h5] at hv
            exact absurd ⟨rfl, rfl⟩ hv
        · rw [if_neg h4] at hv
          exact absurd ⟨rfl, rfl⟩ hv
theorem nats_take1 (l : List UInt8) (h : 1 ≤ l.length) : nats (l.take 1) = [(l.getD 0 0).toNat] := by
  match l, h with
  | a :: l, _ => simp [nats]
theorem nats_take2 (l : List UInt8) (h : 2 ≤ l.length) : nats (l.take 2) = [(l.getD 0 0).toNat, (l.getD 1 0).toNat] := by
  match l, h with
  | a :: b :: l, _ => simp [nats]
theorem nats_take3 (l : List UInt8) (h : 3 ≤ l.length) : nats (l.take 3) = [(l.getD 0 0).toNat, (l.getD 1 0).toNat, (l.getD 2 0).toNat] := by
  match l, h with
  | a :: b :: c :: l, _ => simp [nats]
theorem nats_take4 (l : List UInt8) (h : 4 ≤ l.length) : nats (l.take 4) = [(l.getD 0 0).toNat, (l.getD 1 0).toNat, (l.getD 2 0).toNat, (l.getD 3 0).toNat] := by
  match l, h with
  | a :: b :: c :: d :: l, _ => simp [nats]
theorem hit_valid (l : List UInt8) (n : Nat) (h1 : 1 ≤ n) (h4 : n ≤ 4) (h : hitR n l = true) : l ≠ [] ∧ Lib.validD l = Lib.validD (l.drop n) := by
  simp only [hitR, Bool.and_eq_true, decide_eq_true_eq] at h
  obtain ⟨⟨hl, ho⟩, he⟩ := h
  have hne : l ≠ [] := fun h => by rw [h] at hl; simp at hl; omega
  refine ⟨hne, ?_⟩
  rw [Lib.validD_step l hne, Lib.decodeL_N]
  have k0 := (l.getD 0 0).toNat_lt
  have k1 := (l.getD 1 0).toNat_lt
  have k2 := (l.getD 2 0).toNat_lt
  have k3 := (l.getD 3 0).toNat_lt
  have hcase : n = 1 ∨ n = 2 ∨ n = 3 ∨ n = 4 := by omega
  rcases hcase with rfl | rfl | rfl | rfl
  · rw [nats_take1 l hl] at he ho
    obtain ⟨e1, e2⟩ := hit1 l.length _ (l.getD 1 0).toNat (l.getD 2 0).toNat (l.getD 3 0).toNat k0 he
    rw [e1, if_neg (by simp only []; omega)]
  · rw [nats_take2 l hl] at he ho
    have e1 := hit2 l.length _ _ (l.getD 2 0).toNat (l.getD 3 0).toNat hl k0 k1 he
    rw [if_neg (by omega), e1]
  · rw [nats_take3 l hl] at he ho
    have e1 := hit3 l.length _ _ _ (l.getD 3 0).toNat hl k0 k1 k2 ho he
    rw [if_neg (by omega), e1]
  · rw [nats_take4 l hl] at he ho
    have e1 := hit4 l.length _ _ _ _ hl k0 k1 k2 k3 ho he
    rw [if_neg (by omega), e1]
theorem no_hit (l : List UInt8) (hne : l ≠ []) (h : ∀ n, 1 ≤ n → n ≤ 4 → hitR n l = false) : Lib.validD l = false := by
  rw [Lib.validD_step l hne, Lib.decodeL_N]
  have k0 := (l.getD 0 0).toNat_lt
  have k1 := (l.getD 1 0).toNat_lt
  have k2 := (l.getD 2 0).toNat_lt
  have k3 := (l.getD 3 0).toNat_lt
  have hl : 1 ≤ l.length := List.length_pos_iff.2 hne
  by_cases hv : (Lib.decodeN l.length (l.getD 0 0).toNat (l.getD 1 0).toNat (l.getD 2 0).toNat (l.getD 3 0).toNat).1 = 65533 ∧ (Lib.decodeN l.length (l.getD 0 0).toNat (l.getD 1 0).toNat (l.getD 2 0).toNat (l.getD 3 0).toNat).2 = 1
  · rw [if_pos hv]
  · exfalso
    rcases decode_hit _ _ _ _ _ k0 k1 k2 k3 hv with ⟨_, h2, h3⟩ | ⟨_, hn, h2, h3⟩ | ⟨_, hn, h2, h3⟩ | ⟨_, hn, h2, h3⟩
    · have := h 1 (by omega) (by omega)
      simp only [hitR, nats_take1 l hl, h2, h3] at this
      simp at this
      first | omega | exact hne this
    · have := h 2 (by omega) (by omega)
      simp only [hitR, nats_take2 l hn, h2, h3] at this
      simp at this
      omega
    · have := h 3 (by omega) (by omega)
      simp only [hitR, nats_take3 l hn, h2, h3] at this
      simp at this
      omega
    · have := h 4 (by omega) (by omega)
      simp only [hitR, nats_take4 l hn, h2, h3] at this
      simp at this
      omega
end Go.Proofs.YtegcbjkikhheiaaGreatDoor
namespace Go.Proofs.YtegcbjkikhheiaaGreatDoor
open Go.RowKit
def putR (r : Nat) : List UInt8 := if okR r = true then (encR r).map UInt8.ofNat else []
def PutP (r : Nat) (w : World) (e : Ending) (w' : World) : Prop := e = .returned (.tuple #[.string (txt (putR r)), .bool (okR r)]) ∧ Below w.heap.size w w'
theorem lit_string (w : World) (cs : Array Value) (xs : List UInt8) (b n : Nat) (hb : b = w.heap.size) (h : cs.toList = u8s xs) (hn : n = cs.size) :
    (convert 26 9 (.slice (some ⟨b, 0, none⟩) n n)).run Tryz.prog (w.alloc (.cells cs 5)) = .ok (.string (txt xs)) (w.alloc (.cells cs 5)) :=
  run_bytes_string _ 26 9 5 Tryz.underlying26 Tryz.underlying5 Tryz.underlying9 _ _ n n xs (reads_lit w cs 5 _ b n hb h hn)
theorem u8_nat (m : Nat) (h : m < 256) : Value.int .u8 (m : Int) = .int .u8 (((UInt8.ofNat m).toNat : Nat) : Int) := by
  rw [ofNat_toNat m h]
set_option maxRecDepth 100000 in
set_option maxHeartbeats 1000000 in
theorem uput_any (r : Nat) (w : World) (hr : r ≤ 2147483647) :
    Calls Tryz.prog 229 #[.int .i32 (r : Int)] w (PutP r w) := by
  unfold PutP
  have d0 : decide ((r : Int) < 0) = false := by simp
  have h0 : ¬ (r : Int) < 0 := by omega
  by_cases h1 : 1114111 < r
  · have d1 : decide (1114111 < (r : Int)) = true := by simp; omega
    have ho : okR r = false := by unfold okR; rw [decide_eq_false]; omega
    have hp : putR r = [] := by unfold putR; rw [ho]; rfl
    rw [ho, hp]
    clear ho hp
    go_enter Tryz.func229, Tryz.ntmps229
    go_wp2
    go_ret2
    exact ⟨rfl, Below.refl _ _⟩
  · have d1 : decide (1114111 < (r : Int)) = false := by simp; omega
    by_cases h2 : 55296 ≤ r ∧ r ≤ 57343
    · have d2 : decide (55296 ≤ (r : Int)) = true := by simp; omega
      have d3 : decide ((r : Int) ≤ 57343) = true := by simp; omega
      have ho : okR r = false := by unfold okR; rw [decide_eq_false]; omega
      have hp : putR r = [] := by unfold putR; rw [ho]; rfl
      rw [ho, hp]
      have h3 := h2.1
      have h4 := h2.2
      clear ho hp h2
      go_enter Tryz.func229, Tryz.ntmps229
      go_wp2
      go_ret2
      exact ⟨rfl, Below.refl _ _⟩
    · have ho : okR r = true := by unfold okR; rw [decide_eq_true]; omega
      have hp : putR r = (encR r).map UInt8.ofNat := by unfold putR; rw [ho]; rfl
      rw [ho, hp]
      clear ho hp
      by_cases q0 : 65536 ≤ r
      · have hE : (encR r).map UInt8.ofNat = [UInt8.ofNat (240 + r / 262144), UInt8.ofNat (128 + r / 4096 % 64), UInt8.ofNat (128 + r / 64 % 64), UInt8.ofNat (128 + r % 64)] := by unfold encR; rw [if_neg (by omega), if_neg (by omega), if_neg (by omega)]; rfl
        rw [hE]
        clear hE
        have e0 : decide (65536 ≤ (r : Int)) = true := by simp; omega
        have hC := lit_string (w.alloc (.cells #[.int .u8 ((r : Int) % 256)] 5)) #[.int .u8 (240 + (r : Int) / 262144), .int .u8 (128 + (r : Int) / 4096 % 64), .int .u8 (128 + (r : Int) / 64 % 64), .int .u8 (128 + (r : Int) % 64)] [UInt8.ofNat (240 + r / 262144), UInt8.ofNat (128 + r / 4096 % 64), UInt8.ofNat (128 + r / 64 % 64), UInt8.ofNat (128 + r % 64)] (w.heap.size + 1) 4 (by simp) (by simp only [u8s, List.map_cons, List.map_nil]; rw [← u8_nat _ (by omega), ← u8_nat _ (by omega), ← u8_nat _ (by omega), ← u8_nat _ (by omega)]; rfl) rfl
        have z0 : 55296 ≤ r := by omega
        have z1 : decide (55296 ≤ (r : Int)) = true := by simp; omega
        have z2 : ¬ r ≤ 57343 := by omega
        have z3 : decide ((r : Int) ≤ 57343) = false := by simp; omega
        clear h2
        go_enter Tryz.func229, Tryz.ntmps229
        go_wp2
        go_ret2
        exact ⟨rfl, ((Below.refl _ _).alloc (Nat.le_refl _) _).alloc (by simp) _⟩
      · skip
        by_cases q1 : 2048 ≤ r
        · have hE : (encR r).map UInt8.ofNat = [UInt8.ofNat (224 + r / 4096), UInt8.ofNat (128 + r / 64 % 64), UInt8.ofNat (128 + r % 64)] := by unfold encR; rw [if_neg (by omega), if_neg (by omega), if_pos (by omega)]; rfl
          rw [hE]
          clear hE
          have e0 : decide (2048 ≤ (r : Int)) = true := by simp; omega
          have e1 : decide (65536 ≤ (r : Int)) = false := by simp; omega
          have hC := lit_string (w.alloc (.cells #[.int .u8 ((r : Int) % 256)] 5)) #[.int .u8 (224 + (r : Int) / 4096), .int .u8 (128 + (r : Int) / 64 % 64), .int .u8 (128 + (r : Int) % 64)] [UInt8.ofNat (224 + r / 4096), UInt8.ofNat (128 + r / 64 % 64), UInt8.ofNat (128 + r % 64)] (w.heap.size + 1) 3 (by simp) (by simp only [u8s, List.map_cons, List.map_nil]; rw [← u8_nat _ (by omega), ← u8_nat _ (by omega), ← u8_nat _ (by omega)]; rfl) rfl
          by_cases z : 55296 ≤ r
          · have z1 : decide (55296 ≤ (r : Int)) = true := by simp; omega
            have z2 : ¬ r ≤ 57343 := by omega
            have z3 : decide ((r : Int) ≤ 57343) = false := by simp; omega
            clear h2
            go_enter Tryz.func229, Tryz.ntmps229
            go_wp2
            go_ret2
            exact ⟨rfl, ((Below.refl _ _).alloc (Nat.le_refl _) _).alloc (by simp) _⟩
          · have z1 : decide (55296 ≤ (r : Int)) = false := by simp; omega
            have z2 : ¬ 55296 ≤ r := by omega
            clear h2
            go_enter Tryz.func229, Tryz.ntmps229
            go_wp2
            go_ret2
            exact ⟨rfl, ((Below.refl _ _).alloc (Nat.le_refl _) _).alloc (by simp) _⟩
        · skip
          by_cases q2 : 128 ≤ r
          · have hE : (encR r).map UInt8.ofNat = [UInt8.ofNat (192 + r / 64), UInt8.ofNat (128 + r % 64)] := by unfold encR; rw [if_neg (by omega), if_pos (by omega)]; rfl
            rw [hE]
            clear hE
            have e0 : decide (128 ≤ (r : Int)) = true := by simp; omega
            have e1 : decide (65536 ≤ (r : Int)) = false := by simp; omega
            have e2 : decide (2048 ≤ (r : Int)) = false := by simp; omega
            have hC := lit_string (w.alloc (.cells #[.int .u8 ((r : Int) % 256)] 5)) #[.int .u8 (192 + (r : Int) / 64), .int .u8 (128 + (r : Int) % 64)] [UInt8.ofNat (192 + r / 64), UInt8.ofNat (128 + r % 64)] (w.heap.size + 1) 2 (by simp) (by simp only [u8s, List.map_cons, List.map_nil]; rw [← u8_nat _ (by omega), ← u8_nat _ (by omega)]; rfl) rfl
            have z1 : decide (55296 ≤ (r : Int)) = false := by simp; omega
            have z2 : ¬ 55296 ≤ r := by omega
            clear h2
            go_enter Tryz.func229, Tryz.ntmps229
            go_wp2
            go_ret2
            exact ⟨rfl, ((Below.refl _ _).alloc (Nat.le_refl _) _).alloc (by simp) _⟩
          · skip
            have hE : (encR r).map UInt8.ofNat = [UInt8.ofNat (r)] := by unfold encR; rw [if_pos (by omega)]; rfl
            rw [hE]
            clear hE
            have e0 : decide (65536 ≤ (r : Int)) = false := by simp; omega
            have e1 : decide (2048 ≤ (r : Int)) = false := by simp; omega
            have e2 : decide (128 ≤ (r : Int)) = false := by simp; omega
            have hC := lit_string w #[.int .u8 (r : Int)] [UInt8.ofNat r] w.heap.size 1 rfl (by simp only [u8s, List.map_cons, List.map_nil]; rw [← u8_nat r (by omega)]) rfl
            have hm : (r : Int) % 256 = (r : Int) := by omega
            have z1 : decide (55296 ≤ (r : Int)) = false := by simp; omega
            have z2 : ¬ 55296 ≤ r := by omega
            clear h2
            go_enter Tryz.func229, Tryz.ntmps229
            go_wp2
            go_ret2
            exact ⟨rfl, (Below.refl _ _).alloc (Nat.le_refl _) _⟩
theorem foldR_lt : ∀ (r : List Nat) (h : Nat), (r.foldl (fun n b => 64 * n + b % 64) h) < (h + 1) * 64 ^ r.length := by
  intro r
  induction r with
  | nil => intro h; simp
  | cons b r ih =>
    intro h
    have h1 := ih (64 * h + b % 64)
    rw [List.foldl_cons, List.length_cons, Nat.pow_succ]
    refine Nat.lt_of_lt_of_le h1 ?_
    rw [Nat.mul_comm (64 ^ r.length) 64, ← Nat.mul_assoc]
    exact Nat.mul_le_mul_right _ (by omega)
def numK (l : List UInt8) (k : Nat) : Nat := (((nats l).drop 1).take (k - 1)).foldl (fun n b => 64 * n + b % 64) (headR l.length (l.getD 0 0).toNat)
theorem numK_end (l : List UInt8) (h : 1 ≤ l.length) : numK l l.length = numR (nats l) := by
  match l, h with
  | a :: r, _ =>
    unfold numK numR
    simp only [nats, List.map_cons, List.drop_succ_cons, List.drop_zero, List.length_cons, List.getD_cons_zero, List.length_map]
    rw [List.take_of_length_le (by simp)]
theorem numK_succ (l : List UInt8) (k : Nat) (b : UInt8) (h1 : 1 ≤ k) (hb : l[k]? = some b) : numK l (k + 1) = 64 * numK l k + b.toNat % 64 := by
  unfold numK
  have e : k + 1 - 1 = (k - 1) + 1 := by omega
  have hg : ((nats l).drop 1)[k - 1]? = some b.toNat := by
    rw [List.getElem?_drop, nats, List.getElem?_map, show 1 + (k - 1) = k from by omega, hb]
    rfl
  rw [e, List.take_add_one, hg, Option.toList_some, List.foldl_append, List.foldl_cons, List.foldl_nil]
theorem numK_lt (l : List UInt8) (k : Nat) (hk : k ≤ 4) : numK l k < 67108864 := by
  unfold numK
  have h := foldR_lt (((nats l).drop 1).take (k - 1)) (headR l.length (l.getD 0 0).toNat)
  have h2 : (((nats l).drop 1).take (k - 1)).length ≤ 3 := by rw [List.length_take]; omega
  have h3 : headR l.length (l.getD 0 0).toNat < 256 := by
    have := (l.getD 0 0).toNat_lt
    unfold headR
    repeat' split
    all_goals omega
  have h4 : 64 ^ (((nats l).drop 1).take (k - 1)).length ≤ 64 ^ 3 := Nat.pow_le_pow_right (by omega) h2
  have h5 := Nat.mul_le_mul (show headR l.length (l.getD 0 0).toNat + 1 ≤ 256 by omega) h4
  omega
theorem byte_at (s : ByteArray) (k : Nat) (h : k < s.size) : s.data.toList[k]? = some (s[k]'h) := by
  rw [Array.getElem?_toList]
  exact Array.getElem?_eq_getElem h
set_option maxRecDepth 100000 in
set_option maxHeartbeats 1000000 in
theorem unumber_any (s : ByteArray) (w : World) (h1 : 1 ≤ s.size) (h4 : s.size ≤ 4) :
    Calls Tryz.prog 228 #[.string s] w fun e w' => e = .returned (.int .i32 (numR (nats s.data.toList) : Int)) ∧ w = w' := by
  have h0 : 0 < s.size := by omega
  obtain ⟨x, hx⟩ : ∃ x, s[0]'h0 = x := ⟨_, rfl⟩
  have hll : s.data.toList.length = s.size := by rw [Array.length_toList]; rfl
  have Hend := Lib.hid (numK_end s.data.toList (by omega))
  have Hlt := Lib.hid (fun k hk => numK_lt s.data.toList k hk)
  have Hsucc := Lib.hid (fun k b h1 hb => numK_succ s.data.toList k b h1 hb)
  have Hat := Lib.hid (byte_at s)
  have Hll := Lib.hid hll
  have hx0 : (s.data.toList.getD 0 0) = x := by
    rw [List.getD_eq_getElem?_getD, byte_at s 0 h0, hx]
    rfl
  have hstart : numK s.data.toList 1 = headR s.size x.toNat := by
    unfold numK
    rw [hx0, hll]
    rfl
  have Hstart := Lib.hid hstart
  have hxl := x.toNat_lt
  clear hstart hx0 hll
  by_cases q2 : s.size = 2
  · have e2 : ((s.size : Int) == 2) = true := by simp; omega
    have Q := Lib.hid q2
    clear q2
    go_enter Tryz.func228, Tryz.ntmps228
    go_wp2
    go_loopw [3, 4] (fun n i wr => ∃ k : Nat, 1 ≤ k ∧ k ≤ s.size ∧ i = .int .i64 (k : Int) ∧ n = .int .i64 ((numK s.data.toList k : Nat) : Int) ∧ wr = w) (fun n i _ => 4 - (intOf i).toNat)
    case atStart => exact ⟨1, by decide, by omega, rfl, (by rw [Hstart.out, Q.out]; simp [headR]), rfl⟩
    case round =>
      obtain ⟨k, hk1, hk2, rfl, rfl, rfl⟩ := hrel
      by_cases hlt : k < s.size
      · have d1 : decide ((k : Int) < (s.size : Int)) = true := by simp; omega
        obtain ⟨y, hy⟩ : ∃ y, s[k]'hlt = y := ⟨_, rfl⟩
        have hyl := y.toNat_lt
        have hb := Hlt.out k (by omega)
        have Hs := Lib.hid (Hsucc.out k y hk1 (by rw [Hat.out k hlt, hy]))
        generalize numK s.data.toList k = n0 at *
        go_wp2
        go_roundw
        case rel => exact ⟨k + 1, by omega, by omega, by go_num, by rw [Hs.out]; go_num, trivial⟩
        case measure => simp [intOf]; omega
      · have d1 : decide ((k : Int) < (s.size : Int)) = false := by simp; omega
        obtain rfl : k = s.size := by omega
        have hb := Hlt.out s.size (by omega)
        have hE := Hend.out
        rw [Hll.out] at hE
        have HE := Lib.hid hE
        clear hE
        go_wp2
        go_ret
        exact ⟨by rw [← HE.out]; rfl, rfl⟩
  · have e2 : ((s.size : Int) == 2) = false := by simp; omega
    by_cases q3 : s.size = 3
    · have e3 : ((s.size : Int) == 3) = true := by simp; omega
      have Q := Lib.hid q3
      clear q3
      go_enter Tryz.func228, Tryz.ntmps228
      go_wp2
      go_loopw [3, 4] (fun n i wr => ∃ k : Nat, 1 ≤ k ∧ k ≤ s.size ∧ i = .int .i64 (k : Int) ∧ n = .int .i64 ((numK s.data.toList k : Nat) : Int) ∧ wr = w) (fun n i _ => 4 - (intOf i).toNat)
      case atStart => exact ⟨1, by decide, by omega, rfl, (by rw [Hstart.out, Q.out]; simp [headR]), rfl⟩
      case round =>
        obtain ⟨k, hk1, hk2, rfl, rfl, rfl⟩ := hrel
        by_cases hlt : k < s.size
        · have d1 : decide ((k : Int) < (s.size : Int)) = true := by simp; omega
          obtain ⟨y, hy⟩ : ∃ y, s[k]'hlt = y := ⟨_, rfl⟩
          have hyl := y.toNat_lt
          have hb := Hlt.out k (by omega)
          have Hs := Lib.hid (Hsucc.out k y hk1 (by rw [Hat.out k hlt, hy]))
          generalize numK s.data.toList k = n0 at *
          go_wp2
          go_roundw
          case rel => exact ⟨k + 1, by omega, by omega, by go_num, by rw [Hs.out]; go_num, trivial⟩
          case measure => simp [intOf]; omega
        · have d1 : decide ((k : Int) < (s.size : Int)) = false := by simp; omega
          obtain rfl : k = s.size := by omega
          have hb := Hlt.out s.size (by omega)
          have hE := Hend.out
          rw [Hll.out] at hE
          have HE := Lib.hid hE
          clear hE
          go_wp2
          go_ret
          exact ⟨by rw [← HE.out]; rfl, rfl⟩
    · have e3 : ((s.size : Int) == 3) = false := by simp; omega
      by_cases q4 : s.size = 4
      · have e4 : ((s.size : Int) == 4) = true := by simp; omega
        have Q := Lib.hid q4
        clear q4
        go_enter Tryz.func228, Tryz.ntmps228
        go_wp2
        go_loopw [3, 4] (fun n i wr => ∃ k : Nat, 1 ≤ k ∧ k ≤ s.size ∧ i = .int .i64 (k : Int) ∧ n = .int .i64 ((numK s.data.toList k : Nat) : Int) ∧ wr = w) (fun n i _ => 4 - (intOf i).toNat)
        case atStart => exact ⟨1, by decide, by omega, rfl, (by rw [Hstart.out, Q.out]; simp [headR]), rfl⟩
        case round =>
          obtain ⟨k, hk1, hk2, rfl, rfl, rfl⟩ := hrel
          by_cases hlt : k < s.size
          · have d1 : decide ((k : Int) < (s.size : Int)) = true := by simp; omega
            obtain ⟨y, hy⟩ : ∃ y, s[k]'hlt = y := ⟨_, rfl⟩
            have hyl := y.toNat_lt
            have hb := Hlt.out k (by omega)
            have Hs := Lib.hid (Hsucc.out k y hk1 (by rw [Hat.out k hlt, hy]))
            generalize numK s.data.toList k = n0 at *
            go_wp2
            go_roundw
            case rel => exact ⟨k + 1, by omega, by omega, by go_num, by rw [Hs.out]; go_num, trivial⟩
            case measure => simp [intOf]; omega
          · have d1 : decide ((k : Int) < (s.size : Int)) = false := by simp; omega
            obtain rfl : k = s.size := by omega
            have hb := Hlt.out s.size (by omega)
            have hE := Hend.out
            rw [Hll.out] at hE
            have HE := Lib.hid hE
            clear hE
            go_wp2
            go_ret
            exact ⟨by rw [← HE.out]; rfl, rfl⟩
      · have e4 : ((s.size : Int) == 4) = false := by simp; omega
        have Q := Lib.hid (show s.size = 1 by omega)
        go_enter Tryz.func228, Tryz.ntmps228
        go_wp2
        go_loopw [3, 4] (fun n i wr => ∃ k : Nat, 1 ≤ k ∧ k ≤ s.size ∧ i = .int .i64 (k : Int) ∧ n = .int .i64 ((numK s.data.toList k : Nat) : Int) ∧ wr = w) (fun n i _ => 4 - (intOf i).toNat)
        case atStart => exact ⟨1, by decide, by omega, rfl, (by rw [Hstart.out, Q.out]; simp [headR]), rfl⟩
        case round =>
          obtain ⟨k, hk1, hk2, rfl, rfl, rfl⟩ := hrel
          by_cases hlt : k < s.size
          · have d1 : decide ((k : Int) < (s.size : Int)) = true := by simp; omega
            obtain ⟨y, hy⟩ : ∃ y, s[k]'hlt = y := ⟨_, rfl⟩
            have hyl := y.toNat_lt
            have hb := Hlt.out k (by omega)
            have Hs := Lib.hid (Hsucc.out k y hk1 (by rw [Hat.out k hlt, hy]))
            generalize numK s.data.toList k = n0 at *
            go_wp2
            go_roundw
            case rel => exact ⟨k + 1, by omega, by omega, by go_num, by rw [Hs.out]; go_num, trivial⟩
            case measure => simp [intOf]; omega
          · have d1 : decide ((k : Int) < (s.size : Int)) = false := by simp; omega
            obtain rfl : k = s.size := by omega
            have hb := Hlt.out s.size (by omega)
            have hE := Hend.out
            rw [Hll.out] at hE
            have HE := Lib.hid hE
            clear hE
            go_wp2
            go_ret
            exact ⟨by rw [← HE.out]; rfl, rfl⟩
theorem encR_lt (r : Nat) (h : r ≤ 1114111) : ∀ x ∈ encR r, x < 256 := by
  unfold encR
  intro x hx
  split at hx
  · simp at hx; omega
  · split at hx
    · simp at hx; omega
    · split at hx
      · simp at hx; omega
      · simp at hx; omega
theorem nats_ofNat (l : List Nat) (h : ∀ x ∈ l, x < 256) : nats (l.map UInt8.ofNat) = l := by
  unfold nats
  rw [List.map_map]
  conv => rhs; rw [← List.map_id l]
  exact List.map_congr_left fun x hx => ofNat_toNat x (h x hx)
theorem nats_inj {a b : List UInt8} (h : nats a = nats b) : a = b := (List.map_inj_right (fun _ _ h => UInt8.toNat_inj.1 h)).1 h
theorem put_eq (r : Nat) (t : ByteArray) (h : okR r = true) : txt (putR r) = t ↔ encR r = nats t.data.toList := by
  have hr : r ≤ 1114111 := by simp only [okR, decide_eq_true_eq] at h; omega
  unfold putR
  rw [if_pos h]
  constructor
  · intro e
    rw [← e]
    exact (nats_ofNat _ (encR_lt r hr)).symm
  · intro e
    have e2 : (encR r).map UInt8.ofNat = t.data.toList := nats_inj ((nats_ofNat _ (encR_lt r hr)).trans e)
    unfold txt
    rw [e2]
theorem take_ext (s : ByteArray) (k : Nat) (h : k ≤ s.size) : (s.extract 0 k).data.toList = s.data.toList.take k := by
  rw [ByteArray.data_extract, Array.toList_extract]
  simp [List.extract]
theorem hitR_eq (s : ByteArray) (k : Nat) (hk : k ≤ s.size) : hitR k s.data.toList = (okR (numR (nats (s.extract 0 k).data.toList)) && decide (txt (putR (numR (nats (s.extract 0 k).data.toList))) = s.extract 0 k)) := by
  rw [take_ext s k hk]
  unfold hitR
  have hl : decide (k ≤ s.data.toList.length) = true := by rw [decide_eq_true]; rw [Array.length_toList]; exact hk
  rw [hl, Bool.true_and]
  cases ho : okR (numR (nats (s.data.toList.take k))) with
  | false => rfl
  | true =>
    rw [Bool.true_and, Bool.true_and]
    have h := put_eq (numR (nats (s.data.toList.take k))) (s.extract 0 k) ho
    rw [take_ext s k hk] at h
    by_cases he : encR (numR (nats (s.data.toList.take k))) = nats (s.data.toList.take k)
    · rw [decide_eq_true he, decide_eq_true (h.2 he)]
    · rw [decide_eq_false he, decide_eq_false (fun e => he (h.1 e))]
def NextP (s : ByteArray) (w : World) (e : Ending) (w' : World) : Prop :=
  Below w.heap.size w w' ∧ ((∃ n r : Nat, 1 ≤ n ∧ n ≤ 4 ∧ n ≤ s.size ∧ hitR n s.data.toList = true ∧ e = .returned (.tuple #[.int .i32 (r : Int), .int .i64 (n : Int), .bool true])) ∨
    ((∀ n, 1 ≤ n → n ≤ 4 → hitR n s.data.toList = false) ∧ e = .returned (.tuple #[.int .i32 0, .int .i64 0, .bool false])))
theorem hit_over {l : List UInt8} {n : Nat} (h : l.length < n) : hitR n l = false := by
  unfold hitR
  rw [decide_eq_false (by omega)]
  rfl
set_option maxRecDepth 100000 in
set_option maxHeartbeats 1000000 in
theorem unext_any (s : ByteArray) (w : World) (hs : s.size ≤ maxLen) :
    Calls Tryz.prog 212 #[.string s] w (NextP s w) := by
  unfold maxLen at hs
  have hll : s.data.toList.length = s.size := by rw [Array.length_toList]; rfl
  have Hll := Lib.hid hll
  clear hll
  go_enter Tryz.func212, Tryz.ntmps212
  go_wp2
  go_loopw [5] (fun i wr => ∃ k : Nat, 1 ≤ k ∧ k ≤ 5 ∧ i = .int .i64 (k : Int) ∧ (∀ j, 1 ≤ j → j < k → hitR j s.data.toList = false) ∧ Below w.heap.size w wr) (fun i _ => 5 - (intOf i).toNat)
  case atStart => exact ⟨1, by decide, by decide, rfl, fun j h1 h2 => by omega, Below.refl _ _⟩
  case round =>
    obtain ⟨k, hk1, hk5, rfl, hno, hb⟩ := hrel
    have Hno := Lib.hid hno
    have Hb := Lib.hid hb
    clear hno hb
    by_cases hlt : k ≤ 4
    · have d1 : decide ((k : Int) ≤ 4) = true := by simp; omega
      by_cases hl : k ≤ s.size
      · have d2 : decide ((k : Int) ≤ (s.size : Int)) = true := by simp; omega
        have hes : (s.extract 0 k).size = k := by rw [ByteArray.size_extract]; omega
        have Hnum := Lib.hid (unumber_any (s.extract 0 k) · (by omega) (by omega))
        have Hhit := Lib.hid (hitR_eq s k hl)
        have hrl : numR (nats (s.extract 0 k).data.toList) < 67108864 := by
          have h := numK_lt (s.extract 0 k).data.toList (s.extract 0 k).data.toList.length (by rw [Array.length_toList]; show (s.extract 0 k).size ≤ 4; omega)
          rwa [numK_end _ (by rw [Array.length_toList]; show 1 ≤ (s.extract 0 k).size; omega)] at h
        generalize hrr : numR (nats (s.extract 0 k).data.toList) = r at *
        have Hput := Lib.hid (uput_any r · (by omega))
        unfold PutP at Hput
        clear hrr hes
        go_wp2_with fail
        with_reducible refine (Hnum.out _).mono ?_
        rintro e w' ⟨rfl, rfl⟩
        go_wp2_with fail
        with_reducible refine (Hput.out _).mono ?_
        rintro e w2 ⟨rfl, hb2⟩
        have Hb2 := Lib.hid (bon Hb.out hb2)
        clear hb2
        cases ho : okR r with
        | false =>
          have hf : hitR k s.data.toList = false := by rw [Hhit.out, ho]; rfl
          have Hf := Lib.hid hf
          clear hf ho
          go_wp2
          go_roundw
          case rel => exact ⟨k + 1, by omega, by omega, by go_num, (fun j h1 h2 => by by_cases hj : j = k; { subst hj; exact Hf.out }; exact Hno.out j h1 (by omega)), Hb2.out⟩
          case measure => simp [intOf]; omega
        | true =>
          by_cases heq : txt (putR r) = s.extract 0 k
          · have hf : hitR k s.data.toList = true := by rw [Hhit.out, ho, decide_eq_true heq]; rfl
            have Hf := Lib.hid hf
            have hte : ((txt (putR r)).toList == (s.extract 0 k).toList) = true := by rw [text_eqb2, decide_eq_true heq]
            clear hf ho heq
            go_wp2
            go_ret3
            exact ⟨Hb2.out, .inl ⟨k, r, hk1, hlt, hl, Hf.out, rfl⟩⟩
          · have hf : hitR k s.data.toList = false := by rw [Hhit.out, ho, decide_eq_false heq]; rfl
            have Hf := Lib.hid hf
            have hte : ((txt (putR r)).toList == (s.extract 0 k).toList) = false := by rw [text_eqb2, decide_eq_false heq]
            clear hf ho heq
            go_wp2
            go_roundw
            case rel => exact ⟨k + 1, by omega, by omega, by go_num, (fun j h1 h2 => by by_cases hj : j = k; { subst hj; exact Hf.out }; exact Hno.out j h1 (by omega)), Hb2.out⟩
            case measure => simp [intOf]; omega
      · have d2 : decide ((k : Int) ≤ (s.size : Int)) = false := by simp; omega
        go_wp2
        go_ret3
        exact ⟨Hb.out, .inr ⟨fun n h1 h2 => by by_cases hn : n < k; { exact Hno.out n h1 hn }; exact hit_over (by rw [Hll.out]; omega), rfl⟩⟩
    · have d1 : decide ((k : Int) ≤ 4) = false := by simp; omega
      go_wp2
      go_ret3
      exact ⟨Hb.out, .inr ⟨fun n h1 h2 => Hno.out n h1 (by omega), rfl⟩⟩
set_option maxRecDepth 100000 in
set_option maxHeartbeats 1000000 in
theorem uvalid_any (s : ByteArray) (w : World) (hs : s.size ≤ maxLen) :
    Calls Tryz.prog 187 #[.string s] w fun e w' => e = .returned (.bool (Lib.validD s.data.toList)) ∧ Below w.heap.size w w' := by
  have Hs := Lib.hid hs
  go_enter Tryz.func187, Tryz.ntmps187
  go_wp2
  go_loopg [0] (s.size + 1) (fun gk s0 wx => Below w.heap.size w wx ∧ ∃ t : ByteArray, s0 = .string t ∧ Lib.validD t.data.toList = Lib.validD s.data.toList ∧ t.size < gk ∧ t.size ≤ s.size)
  case atStart => exact ⟨Below.refl _ _, s, rfl, rfl, by omega, Nat.le_refl _⟩
  case round =>
    obtain ⟨hb, t, rfl, hv, hg, hts⟩ := hrel
    have Hb := Lib.hid hb
    have Hv := Lib.hid hv
    clear hb hv
    by_cases h0 : 0 < t.size
    · have d1 : decide ((0 : Int) < (t.size : Int)) = true := by simp; omega
      obtain ⟨g', rfl⟩ : ∃ g', gk = g' + 1 := ⟨gk - 1, by omega⟩
      have htm : t.size ≤ maxLen := by have := Hs.out; omega
      go_wp2_with fail
      with_reducible refine (unext_any t _ htm).mono ?_
      rintro e w2 ⟨hb2, hcase⟩
      have Hb2 := Lib.hid (bon Hb.out hb2)
      clear hb2
      rcases hcase with ⟨n, r, hn1, hn4, hnl, hh, rfl⟩ | ⟨hno, rfl⟩
      · have hstep := (hit_valid _ n hn1 hn4 hh).2
        have Hstep := Lib.hid hstep
        obtain ⟨t2, ht2⟩ : ∃ t2, t.extract n t.size = t2 := ⟨_, rfl⟩
        have hz2 : t2.size + n = t.size := by rw [← ht2, ByteArray.size_extract]; omega
        have hd2 : t2.data.toList = t.data.toList.drop n := by
          rw [← ht2, ByteArray.data_extract, Array.toList_extract]
          have hll : t.data.toList.length = t.size := by rw [Array.length_toList]; rfl
          show (t.data.toList.drop n).take (t.size - n) = _
          exact List.take_of_length_le (by rw [List.length_drop, hll]; exact Nat.le_refl _)
        have Hd2 := Lib.hid hd2
        have Hz2 := Lib.hid hz2
        clear hh hstep hd2 hz2
        go_wp2
        go_roundg g'
        case measure => omega
        case rel => exact ⟨Hb2.out, t2, rfl, by rw [Hd2.out, ← Hstep.out, Hv.out], by have := Hz2.out; omega, by have := Hz2.out; omega⟩
      · have hf : Lib.validD t.data.toList = false := no_hit _ (fun h => by have : t.data.toList.length = t.size := by { rw [Array.length_toList]; rfl }; rw [h] at this; simp at this; omega) hno
        have Hf := Lib.hid hf
        clear hno hf
        go_wp2
        go_ret
        exact ⟨by rw [← Hv.out, Hf.out]; rfl, Hb2.out⟩
    · have d1 : decide ((0 : Int) < (t.size : Int)) = false := decide_eq_false (by omega)
      have hn : t.data.toList = [] := List.eq_nil_of_length_eq_zero (by rw [Array.length_toList]; show t.size = 0; omega)
      have Hn := Lib.hid hn
      clear hn
      go_wp2
      go_ret
      exact ⟨by rw [← Hv.out, Hn.out]; rfl, Hb.out⟩
end Go.Proofs.YtegcbjkikhheiaaGreatDoor
namespace Go.Proofs.YtegcbjkikhheiaaGreatDoor
open Go.RowKit
theorem grown_refl (w : World) (r : Option Nat) : w.grownBy w r := ⟨rfl, rfl, rfl, Nat.le_refl _, fun _ _ _ => rfl⟩
end Go.Proofs.YtegcbjkikhheiaaGreatDoor
namespace Go.Proofs.YtegcbjkikhheiaaGreatDoor
def stepB (r b : Nat) : Nat := (r / 2) ^^^ (if r % 2 ≠ b then crcPoly else 0)
theorem stepB_xor (r c : Nat) : stepZ (r ^^^ c) = stepB r (c % 2) ^^^ (c / 2) := by
  unfold stepZ stepB
  rw [xor_half, xor_par]
  rcases Nat.mod_two_eq_zero_or_one r with ha | ha <;> rcases Nat.mod_two_eq_zero_or_one c with hb | hb <;> simp [ha, hb] <;> (apply Nat.eq_of_testBit_eq; intro i; simp; cases (r / 2).testBit i <;> cases (c / 2).testBit i <;> cases crcPoly.testBit i <;> rfl)
def stepsB (r c : Nat) : Nat → Nat
  | 0 => r
  | k + 1 => stepB (stepsB r c k) (c / 2 ^ k % 2)
def stepsZ (r : Nat) : Nat → Nat
  | 0 => r
  | k + 1 => stepZ (stepsZ r k)
theorem stepsZ_xor (r c : Nat) (k : Nat) : stepsZ (r ^^^ c) k = stepsB r c k ^^^ (c / 2 ^ k) := by
  induction k with
  | zero => simp [stepsZ, stepsB]
  | succ k ih =>
    rw [stepsZ, ih, stepB_xor, stepsB, Nat.pow_succ, Nat.div_div_eq_div_mul]
theorem byteR_bits (r : Nat) (c : UInt8) : stepsB r c.toNat 8 = byteR r c := by
  have h := stepsZ_xor r c.toNat 8
  have hc := c.toNat_lt
  rw [show c.toNat / 2 ^ 8 = 0 by omega, Nat.xor_zero] at h
  rw [← h]
  rfl
theorem stepB_lt {r : Nat} (h : r < 4294967296) (b : Nat) : stepB r b < 4294967296 := by
  unfold stepB
  refine Nat.xor_lt_two_pow (n := 32) (by omega) ?_
  split <;> decide
theorem stepsB_lt {r : Nat} (h : r < 4294967296) (c k : Nat) : stepsB r c k < 4294967296 := by
  induction k with
  | zero => exact h
  | succ k ih => exact stepB_lt ih _
end Go.Proofs.YtegcbjkikhheiaaGreatDoor
namespace Go.Proofs.YtegcbjkikhheiaaGreatDoor
theorem dct_nil : dct [] = [] := rfl
theorem dct_nodup (l : List ByteArray) : (dct l).Nodup := (splitL_used l).1
theorem fold_prefix : ∀ (l : List ByteArray) (st : List ByteArray × List Nat), st.1 <+: (l.foldl splitStep st).1
  | [], st => List.prefix_refl _
  | x :: l, st => by
    rw [List.foldl_cons]
    refine List.IsPrefix.trans ?_ (fold_prefix l _)
    unfold splitStep
    split
    · exact List.prefix_refl _
    · exact List.prefix_append _ _
theorem dct_prefix (l : List ByteArray) (k : Nat) : dct (l.take k) <+: dct l := by
  unfold dct splitL
  conv => rhs; rw [← List.take_append_drop k l, List.foldl_append]
  exact fold_prefix _ _
theorem place_first {l : List ByteArray} {k : Nat} {s : ByteArray} (h : l[k]? = some s) (hn : s ∉ l.take k) : placeL (dct l) s = some (dct (l.take k)).length := by
  have h1 := dct_take_out h hn
  obtain ⟨r, hr⟩ := dct_prefix l (k + 1)
  refine placeL_nodup _ _ _ (dct_nodup l) ?_
  rw [← hr, h1, List.append_assoc, List.getElem?_append_right (Nat.le_refl _), Nat.sub_self]
  rfl
theorem dct_len (l : List ByteArray) : (dct l).length ≤ l.length := (splitL_len l).1
end Go.Proofs.YtegcbjkikhheiaaGreatDoor
namespace Go.Proofs.YtegcbjkikhheiaaGreatDoor
open Go.RowKit
set_option maxRecDepth 100000 in
theorem rstep_any (r b : Nat) (hr : r < 4294967296) (hb : b < 2) (w : World) :
    Calls Tryz.prog 209 #[.int .u32 (r : Int), .int .u32 (b : Int)] w fun e w' => e = .returned (.int .u32 ((stepB r b : Nat) : Int)) ∧ w = w' := by
  obtain ⟨m, hm⟩ : ∃ m : Nat, (r : Int) % 2 = (m : Int) := ⟨r % 2, by omega⟩
  obtain ⟨q, hq⟩ : ∃ q : Nat, (r : Int) / 2 = (q : Int) := ⟨r / 2, by omega⟩
  have hqq : q = r / 2 := by omega
  have hmm : m = r % 2 := by omega
  by_cases h : m = b
  · have d1 : ((m : Int) != (b : Int)) = false := by simp [h]
    have HS := Lib.hid (show stepB r b = q by unfold stepB; rw [if_neg (by omega), Nat.xor_zero, hqq])
    clear hqq hmm h
    go_enter Tryz.func209, Tryz.ntmps209
    go_wp2
    go_ret
    rw [HS.out]
    exact ⟨rfl, rfl⟩
  · have d1 : ((m : Int) != (b : Int)) = true := by simp; omega
    have hx := u32_xor_nat q 2197175160 (by omega) (by decide)
    have hx2 : bits .xor .u32 (q : Int) 2197175160 = ((q ^^^ 2197175160 : Nat) : Int) := hx
    obtain ⟨Y, hY⟩ : ∃ Y, Y = q ^^^ 2197175160 := ⟨_, rfl⟩
    rw [← hY] at hx2
    have HS := Lib.hid (show stepB r b = Y by unfold stepB; rw [if_pos (by omega), ← hqq, hY]; rfl)
    clear hqq hmm h hx hY
    go_enter Tryz.func209, Tryz.ntmps209
    go_wp2
    go_ret
    rw [HS.out]
    exact ⟨rfl, rfl⟩
set_option maxRecDepth 100000 in
set_option maxHeartbeats 1000000 in
theorem rtake_any (r : Nat) (hr0 : r < 4294967296) (A : Option Addr) (n c : Nat) (xs : List UInt8) (w : World) (hr : Reads w w.heap.size 1 A n (u8s xs)) (hn : n ≤ maxLen) :
    Calls Tryz.prog 183 #[.int .u32 (r : Int), .slice A n c] w fun e w' => e = .returned (.int .u32 ((crcR r xs : Nat) : Int)) ∧ w = w' := by
  have Hr := Lib.hid hr
  have Hl := Lib.hid (reads_len hr)
  have hn63 : n ≤ 9223372036854775807 := by simp only [maxLen] at hn; omega
  clear hr hn
  go_enter Tryz.func183, Tryz.ntmps183
  go_wp2
  go_loopw [0, 5] (fun r' i wr => ∃ j : Nat, j ≤ n ∧ i = .int .i64 (j : Int) ∧ r' = .int .u32 ((crcR r (xs.take j) : Nat) : Int) ∧ wr = w) (fun _ i _ => n - (intOf i).toNat)
  case atStart => exact ⟨0, Nat.zero_le _, rfl, rfl, rfl⟩
  case round =>
    obtain ⟨j, hj, rfl, rfl, rfl⟩ := hrel
    have hlt0 := crcR_lt hr0 (xs.take j)
    obtain ⟨R, hR⟩ : ∃ R, R = crcR r (xs.take j) := ⟨_, rfl⟩
    rw [← hR] at hlt0 ⊢
    have HR := Lib.hid hR
    clear hR
    by_cases hlt : j < n
    · obtain ⟨ad, v, rfl, hbk, hu, hcell⟩ := Hr.out.at_ hlt
      obtain ⟨x, hx, rfl⟩ := u8s_get _ _ _ hu
      have Hx := Lib.hid hx
      clear hx hu hbk
      have hxl := x.toNat_lt
      have e1 : (x.toNat : Int) % 4294967296 = (x.toNat : Int) := by omega
      have d1 : decide ((j : Int) < (n : Int)) = true := by simp; omega
      go_wp2
      go_loopw [0, 6, 7] (fun r' c' k' wr' => ∃ k : Nat, k ≤ 8 ∧ k' = .int .i64 (k : Int) ∧ c' = .int .u32 ((x.toNat / 2 ^ k : Nat) : Int) ∧ r' = .int .u32 ((stepsB R x.toNat k : Nat) : Int) ∧ wr' = wr) (fun _ _ k _ => 8 - (intOf k).toNat)
      case atStart => exact ⟨0, by omega, rfl, by simp, rfl, rfl⟩
      case round =>
        obtain ⟨k, hk, rfl, rfl, rfl, hwr⟩ := hrel
        subst hwr
        have hSl := stepsB_lt hlt0 x.toNat k
        have hcl : x.toNat / 2 ^ k < 256 := Nat.lt_of_le_of_lt (Nat.div_le_self _ _) hxl
        obtain ⟨C, hC⟩ : ∃ C, C = x.toNat / 2 ^ k := ⟨_, rfl⟩
        obtain ⟨T, hTT⟩ : ∃ T, T = stepsB R x.toNat k := ⟨_, rfl⟩
        rw [← hC] at hcl ⊢
        rw [← hTT] at hSl ⊢
        obtain ⟨m, hm⟩ : ∃ m : Nat, (C : Int) % 2 = (m : Int) := ⟨C % 2, by omega⟩
        obtain ⟨q, hq⟩ : ∃ q : Nat, (C : Int) / 2 = (q : Int) := ⟨C / 2, by omega⟩
        by_cases hk8 : k < 8
        · have d2 : decide ((k : Int) < 8) = true := by simp; omega
          have HN := Lib.hid (show stepB T m = stepsB R x.toNat (k + 1) ∧ q = x.toNat / 2 ^ (k + 1) by
            refine ⟨?_, ?_⟩
            · rw [stepsB, ← hTT, ← hC, show m = C % 2 by omega]
            · rw [Nat.pow_succ, ← Nat.div_div_eq_div_mul, ← hC]
              omega)
          have hm2 : m < 2 := by omega
          clear hC hTT
          go_wp2_with fail
          with_reducible refine (rstep_any T m hSl hm2 _).mono ?_
          rintro e w1 ⟨rfl, rfl⟩
          rw [HN.out.1]
          go_wp2
          go_roundw
          case rel => exact ⟨k + 1, by omega, by go_num, by rw [← HN.out.2], rfl, trivial⟩
          case measure => simp [intOf]; omega
        · obtain rfl : k = 8 := by omega
          have HN := Lib.hid (show T = crcR r (xs.take (j + 1)) by
            rw [hTT, byteR_bits, List.take_add_one, Hx.out, crcR_append, ← HR.out]
            rfl)
          clear hC hTT
          rw [HN.out]
          go_wp2
          go_roundw
          case rel => exact ⟨j + 1, by omega, by go_num, rfl, trivial⟩
          case measure => simp [intOf]; omega
    · obtain rfl : j = n := by omega
      have HE := Lib.hid (show R = crcR r xs by rw [HR.out, List.take_of_length_le (by rw [Hl.out]; exact Nat.le_refl _)])
      rw [HE.out]
      go_wp2
      go_ret
      exact ⟨rfl, rfl⟩
set_option maxRecDepth 100000 in
theorem rupdate_any (s : Nat) (hs : s < 4294967296) (A : Option Addr) (n c : Nat) (xs : List UInt8) (w : World) (hr : Reads w w.heap.size 1 A n (u8s xs)) (hn : n ≤ maxLen) :
    Calls Tryz.prog 134 #[.int .u32 (s : Int), .slice A n c] w fun e w' => e = .returned (.int .u32 ((crcU s xs : Nat) : Int)) ∧ w = w' := by
  have Hr := Lib.hid hr
  clear hr
  have hx1 := unary_not32 s hs
  obtain ⟨s2, hs2⟩ : ∃ s2, s2 = 4294967295 - s := ⟨_, rfl⟩
  have hl := crcR_lt (r := s2) (by omega) xs
  have HU := Lib.hid (show 4294967295 - crcR s2 xs = crcU s xs by rw [hs2]; rfl)
  rw [← hs2] at hx1
  have hx2 := unary_not32 (crcR s2 xs) hl
  rw [HU.out] at hx2
  have h2 : s2 < 4294967296 := by omega
  clear hs2
  go_enter Tryz.func134, Tryz.ntmps134
  go_wp2_with fail
  with_reducible refine (rtake_any s2 h2 A n c xs w Hr.out hn).mono ?_
  rintro e w1 ⟨rfl, rfl⟩
  go_wp2
  go_ret
  exact ⟨rfl, rfl⟩
set_option maxRecDepth 100000 in
theorem rbytes_any (s : Nat) (hs : s < 4294967296) (w : World) :
    Calls Tryz.prog 103 #[.int .u32 (s : Int)] w (FourB s w) := by
  go_enter Tryz.func103, Tryz.ntmps103
  go_wp2
  go_ret
  refine four_new s w _ _ _ _ ?_ ?_ ?_ ?_ <;> omega
end Go.Proofs.YtegcbjkikhheiaaGreatDoor
namespace Go.Proofs.YtegcbjkikhheiaaGreatDoor
open Go.RowKit
theorem grown_trans {w w1 w2 : World} {r : Option Nat} (h : w.grownBy w1 r) (h2 : w1.grownBy w2 r) : w.grownBy w2 r :=
  ⟨h2.os.trans h.os, h2.tape.trans h.tape, h2.output.trans h.output, Nat.le_trans h.size h2.size, fun k hk hne => (h2.block k (Nat.lt_of_lt_of_le hk h.size) hne).trans (h.block k hk hne)⟩
theorem grown_of_below {w w1 : World} {r : Option Nat} (h : Below w.heap.size w w1) : w.grownBy w1 r := ⟨h.os, h.tape, h.output, h.size, fun k hk _ => h.block k hk⟩
theorem crcS_lt (xs : List UInt8) : crcS xs < 4294967296 := crcU_lt 0 xs
theorem crcS_nil : crcS [] = 0 := by decide
structure Wk (w : World) (g : Nat) (X : Option Addr) (xn xc : Nat) (xs bs : List UInt8) : Prop where
  blk : Blk w g 93 #[.slice X xn xc, .int .i64 ((lcp bs xs : Nat) : Int), .int .i64 ((bs.length : Nat) : Int), .bool (decide (lcp bs xs < bs.length)), .int .u32 ((crcS bs : Nat) : Int)]
  rd : Reads w g 1 X xn (u8s xs)
  max : xn ≤ maxLen
section
variable {w w1 w' : World} {g : Nat} {X : Option Addr} {xn xc : Nat} {xs bs : List UInt8}
theorem Wk.on (h : Wk w g X xn xc xs bs) (hb : Below w.heap.size w w') : Wk w' g X xn xc xs bs := ⟨h.blk.on hb, h.rd.below (hb.mono (Nat.le_of_lt h.blk.lt)), h.max⟩
theorem Wk.al (h : Wk w g X xn xc xs bs) (o : Obj) : Wk (w.alloc o) g X xn xc xs bs := h.on (bal (Below.refl _ _) o)
theorem Wk.drew (h : Wk w g X xn xc xs bs) : Wk w.drew g X xn xc xs bs := ⟨h.blk, h.rd, h.max⟩
theorem Wk.len (h : Wk w g X xn xc xs bs) : xs.length = xn := by have := h.rd.1; simpa [u8s] using this
end
def WalkP (g : Nat) (X : Option Addr) (xn xc : Nat) (xs pre out : List UInt8) (w : World) (e : Ending) (w' : World) : Prop :=
  e = .returned (.tuple #[]) ∧ Wk w' g X xn xc xs (pre ++ out) ∧ w.grownBy w' (some g)
section
variable {w w1 w' : World} {e : Ending} {g : Nat} {X : Option Addr} {xn xc : Nat} {xs pre out out2 : List UInt8}
theorem WalkP.none_ (h : Wk w' g X xn xc xs pre) (hg : w.grownBy w' (some g)) : WalkP g X xn xc xs pre [] w (.returned (.tuple #[])) w' := ⟨rfl, by rw [List.append_nil]; exact h, hg⟩
theorem WalkP.after (hg : w.grownBy w1 (some g)) (h : WalkP g X xn xc xs (pre ++ out) out2 w1 e w') : WalkP g X xn xc xs pre (out ++ out2) w e w' :=
  ⟨h.1, by rw [← List.append_assoc]; exact h.2.1, grown_trans hg h.2.2⟩
theorem WalkP.ahead (hg : w.grownBy w1 (some g)) (h : WalkP g X xn xc xs pre out w1 e w') : WalkP g X xn xc xs pre out w e w' := ⟨h.1, h.2.1, grown_trans hg h.2.2⟩
end
theorem lcp_off {bs xs : List UInt8} (c : UInt8) (h : lcp bs xs < bs.length) : lcp (bs ++ [c]) xs = lcp bs xs ∧ decide (lcp (bs ++ [c]) xs < (bs ++ [c]).length) = true := by
  have h1 := lcp_stuck bs xs [c] h
  refine ⟨h1, ?_⟩
  rw [h1]
  simp
  omega
theorem lcp_hit {bs xs : List UInt8} {c : UInt8} (h : lcp bs xs = bs.length) (hc : xs[bs.length]? = some c) : lcp (bs ++ [c]) xs = lcp bs xs + 1 ∧ decide (lcp (bs ++ [c]) xs < (bs ++ [c]).length) = false := by
  have h1 := lcp_whole bs xs c h
  rw [if_pos hc] at h1
  refine ⟨by omega, ?_⟩
  rw [h1]
  simp
theorem lcp_miss {bs xs : List UInt8} {c : UInt8} (h : lcp bs xs = bs.length) (hc : xs[bs.length]? ≠ some c) : lcp (bs ++ [c]) xs = lcp bs xs ∧ decide (lcp (bs ++ [c]) xs < (bs ++ [c]).length) = true := by
  have h1 := lcp_whole bs xs c h
  rw [if_neg hc] at h1
  refine ⟨by omega, ?_⟩
  rw [h1]
  simp
end Go.Proofs.YtegcbjkikhheiaaGreatDoor
