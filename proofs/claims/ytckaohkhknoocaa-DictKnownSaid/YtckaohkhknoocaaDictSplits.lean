/- The law DictSplits, walked. -/
import Derived.Test.YtckaohkhknoocaaDictWorks
import Derived.Test.YtckaohkhknoocaaCut
set_option linter.unusedVariables false
set_option linter.unusedSimpArgs false
namespace Go.Proofs.Ytckaohkhknoocaa
open Go.RowKit
theorem dput_is (A : Option Addr) (n c : Nat) (xs : List UInt8) (B : Option Addr) (m c2 : Nat) (l : List ByteArray) (tot : List UInt8) (w : World) (hr : Reads w w.heap.size 1 A n (u8s xs)) (hn : n ≤ c) (hc : c ≤ maxLen)
    (hr2 : Reads w w.heap.size 1 B m (txs l)) (hm : m ≤ 1099511627776) (hsz : ∀ s ∈ l, s.size ≤ maxLen) (ht : xs ++ putD l = tot) (htot : tot.length ≤ 1099511627776) :
    Calls Try.prog 18 #[.slice A n c, .slice B m c2] w (Wrote tot w) := by
  subst ht
  exact dput_any A n c xs B m c2 l w hr hn hc hr2 hm hsz htot
theorem refdput_is (A : Option Addr) (n c : Nat) (xs : List UInt8) (B : Option Addr) (m c2 : Nat) (l : List ByteArray) (tot : List UInt8) (w : World) (hr : Reads w w.heap.size 1 A n (u8s xs))
    (hr2 : Reads w w.heap.size 1 B m (txs l)) (hm : m ≤ 1099511627776) (ht : xs ++ putD l = tot) (htot : tot.length ≤ 1099511627776) :
    Calls Try.prog 19 #[.slice A n c, .slice B m c2] w (Wrote tot w) := by
  subst ht
  exact refdput_any A n c xs B m c2 l w hr hr2 hm htot
theorem flatMap_le {α : Type} (f : α → List UInt8) (B : Nat) : ∀ l : List α, (∀ x ∈ l, (f x).length ≤ B) → (l.flatMap f).length ≤ l.length * B
  | [], _ => by simp
  | x :: l, h => by
    rw [List.flatMap_cons, List.length_append, List.length_cons, Nat.add_mul, Nat.one_mul]
    have h1 := h x (by simp)
    have h2 := flatMap_le f B l (fun y hy => h y (by simp [hy]))
    omega
theorem putD_le (l : List ByteArray) (M : Nat) (h : ∀ s ∈ l, s.size ≤ M) : (putD l).length ≤ 10 + l.length * (M + 20) := by
  have hl := splitL_len l
  have hin : ∀ s ∈ (splitL l).1, s ∈ l := by
    have := (splitL_mem l l.length (Nat.le_refl _)).1
    rw [List.take_length] at this
    exact fun s => (this s).1
  have h1 := flatMap_le putText (M + 10) (splitL l).1 (fun s hs => by
    have a := leb_le (bts s).length
    have b := h s (hin s hs)
    unfold putText
    rw [List.length_append, bts_len] at *
    omega)
  have h2 := flatMap_le leb 10 (splitL l).2 (fun n _ => leb_le n)
  have h3 := leb_le (splitL l).1.length
  unfold putD
  rw [List.length_append, List.length_append]
  have h4 : (splitL l).1.length * (M + 10) ≤ l.length * (M + 10) := Nat.mul_le_mul_right _ hl.1
  have h5 : (splitL l).2.length * 10 = l.length * 10 := by rw [hl.2]
  have h6 : l.length * (M + 20) = l.length * (M + 10) + l.length * 10 := by rw [← Nat.mul_add]
  omega
theorem cutTs_putD (l : List ByteArray) : (putD (cutTs l)).length ≤ 20000 := by
  have := putD_le (cutTs l) 200 (cutTs_size l)
  have h2 := cutTs_len l
  have h3 : (cutTs l).length * (200 + 20) ≤ 60 * 220 := Nat.mul_le_mul_right _ h2
  omega
theorem cutTs_max (l : List ByteArray) : ∀ s ∈ cutTs l, s.size ≤ maxLen := fun s hs => by
  have := cutTs_size l s hs
  simp only [maxLen]
  omega
set_option maxRecDepth 100000 in
set_option maxHeartbeats 2000000 in
theorem dictSplits_walk (A : Option Addr) (l c : Nat) (ts : List ByteArray) (B : Option Addr) (m c2 : Nat) (xs : List UInt8) (w : World) (hr : Reads w w.heap.size 1 A l (txs ts)) (hl : l ≤ c) (hc : c ≤ maxLen) (hz : ∀ s ∈ ts, s.size ≤ maxLen) (hr2 : Reads w w.heap.size 1 B m (u8s xs)) (hl2 : m ≤ c2) (hc2 : c2 ≤ maxLen) :
    Calls Try.prog 3 #[.slice A l c, .slice B m c2] w fun e w' => e = .returned (.bool true) ∧ Below w.heap.size w w' := by
  obtain ⟨q, ys, -, hcast, hm1, hm2, hry⟩ := cut_head hr2 60 60 rfl
  have hmc : q ≤ c2 := by omega
  have Hz := Lib.hid hz
  have hin := cutTs_len ts
  have Hmax := Lib.hid (cutTs_max ts)
  obtain ⟨tot, htt⟩ : ∃ tot, ys ++ putD (cutTs ts) = tot := ⟨_, rfl⟩
  have Htt := Lib.hid htt
  have Hput := Lib.hid (show tot.length ≤ 1099511627776 from by
    rw [← htt]
    have h1 := cutTs_putD ts
    have h2 := reads_len hry
    rw [List.length_append]
    omega)
  have hc263 : c2 ≤ 9223372036854775807 := by unfold maxLen at hc2; omega
  clear hz hm1 htt
  go_enter Try.func3, Try.ntmps3
  go_wp2
  have hS : Below w.heap.size w w.drew := (Below.refl _ _).drew
  refine wp_region_keep (Below w.heap.size w) [(0, false), (2, false), (3, false), (4, false), (5, false), (6, false), (1, true), (7, true), (8, false), (9, false)] (by kernel_rfl) (by kernel_rfl) (by kernel_rfl) (fun d _ _ _ _ h => by cases d <;> exact h) ?_
  refine held_pure (v := ?_) rfl rfl (by simp [Region.wanted, yielded]) hS ?_ ?_
  rotate_left
  · intro w hw; go_simp; try with_reducible rfl
  try simp only [Act.put, List.setIfInBounds_toArray, List.set_cons_succ, List.set_cons_zero]
  refine held_pure (v := ?_) rfl rfl (by simp [Region.wanted, yielded]) hS ?_ ?_
  rotate_left
  · intro w hw; go_simp; try with_reducible rfl
  try simp only [Act.put, List.setIfInBounds_toArray, List.set_cons_succ, List.set_cons_zero]
  refine held_pure (v := ?_) rfl rfl (by simp [Region.wanted, yielded]) hS ?_ ?_
  rotate_left
  · intro w hw; go_simp; try with_reducible rfl
  try simp only [Act.put, List.setIfInBounds_toArray, List.set_cons_succ, List.set_cons_zero]
  refine held_pure (v := ?_) rfl rfl (by simp [Region.wanted, yielded]) hS ?_ ?_
  rotate_left
  · intro w hw; go_simp; try with_reducible rfl
  try simp only [Act.put, List.setIfInBounds_toArray, List.set_cons_succ, List.set_cons_zero]
  refine held_pure (v := ?_) rfl rfl (by simp [Region.wanted, yielded]) hS ?_ ?_
  rotate_left
  · intro w hw; go_simp; try with_reducible rfl
  try simp only [Act.put, List.setIfInBounds_toArray, List.set_cons_succ, List.set_cons_zero]
  refine held_pure (v := ?_) rfl rfl (by simp [Region.wanted, yielded]) hS ?_ ?_
  rotate_left
  · intro w hw; go_simp; try with_reducible rfl
  try simp only [Act.put, List.setIfInBounds_toArray, List.set_cons_succ, List.set_cons_zero]
  refine held_eff1 rfl (by simp [Region.wanted, yielded]) fun K hK => ?_
  go_simp
  with_reducible refine (dcut_any A l c ts _ hr.drew hl hc Hz.out).mono ?_
  rintro e w1 ⟨A1, c1, rfl, g1, g2, o1, hb1⟩
  have r1 := own_reads o1
  generalize hil : (cutTs ts).length = il at hin g1 r1 ⊢
  have Hil := Lib.hid hil
  clear hil
  refine held_go hK (by exact bon hS hb1) fun hS => ?_
  clear hK K
  try simp only [Act.put, List.setIfInBounds_toArray, List.set_cons_succ, List.set_cons_zero]
  refine held_eff1 rfl (by simp [Region.wanted, yielded]) fun K hK => ?_
  go_simp
  with_reducible refine (copyBytes_any B q c2 ys _ ((hry.drew).on hb1) (by omega)).mono ?_
  rintro e w2 ⟨A2, c2', rfl, g3, g4, o2, hb2⟩
  have r2 := own_reads o2
  refine held_go hK (by exact bon hS hb2) fun hS => ?_
  clear hK K
  try simp only [Act.put, List.setIfInBounds_toArray, List.set_cons_succ, List.set_cons_zero]
  refine held_pure (v := ?_) rfl rfl (by simp [Region.wanted, yielded]) hS ?_ ?_
  rotate_left
  · intro w hw; go_simp; try with_reducible rfl
  try simp only [Act.put, List.setIfInBounds_toArray, List.set_cons_succ, List.set_cons_zero]
  refine held_pure (v := ?_) rfl rfl (by simp [Region.wanted, yielded]) hS ?_ ?_
  rotate_left
  · intro w hw; go_simp; try with_reducible rfl
  try simp only [Act.put, List.setIfInBounds_toArray, List.set_cons_succ, List.set_cons_zero]
  refine held_end ?_
  clear hS
  replace r1 := r1.on hb2
  go_wp2_with fail
  with_reducible refine (split_any A1 il c1 (cutTs ts) _ r1 (by omega) Hmax.out).mono ?_
  rintro e w3 ⟨A3, c3, A4, c4, rfl, k1, k2, k3, k4, o3, o4, hb3⟩
  have r3 := own_reads o3
  have r4 := own_reads o4
  rw [nns_ins] at r4
  rw [Hil.out] at r4 k3 ⊢
  clear o4
  go_wp2_with fail
  with_reducible refine (refsplit_any A1 il c1 (cutTs ts) _ (by repeat (first | exact reads_lit _ _ _ _ _ _ (by simp) rfl rfl | assumption | exact Reads.none_ | exact reads_t0 | exact reads_u0 | exact reads_i0 | refine Reads.al ?_ _ | refine Reads.drew ?_ | refine Reads.on ?_ (by assumption))) (by omega)).mono ?_
  rintro e w4 ⟨A5, c5, A6, c6, rfl, k5, k6, k7, k8, o5, o6, hb4⟩
  have r5 := own_reads o5
  have r6 := own_reads o6
  rw [nns_ins] at r6
  rw [Hil.out] at r6 k7 ⊢
  clear o5 o6
  have hdl := (splitL_len (cutTs ts)).1
  rw [Hil.out] at hdl
  generalize hdd : (splitL (cutTs ts)).1 = d at r3 r5 k1 k5 hdl o3 ⊢
  generalize (splitL (cutTs ts)).2.map Int.ofNat = zs at r4 r6
  clear hdd
  go_wp2_with fail
  with_reducible refine (eqTexts_yes A3 A5 d.length c3 d.length c5 d d _ (by repeat (first | exact reads_lit _ _ _ _ _ _ (by simp) rfl rfl | assumption | exact Reads.none_ | exact reads_t0 | exact reads_u0 | exact reads_i0 | refine Reads.al ?_ _ | refine Reads.drew ?_ | refine Reads.on ?_ (by assumption))) (by repeat (first | exact reads_lit _ _ _ _ _ _ (by simp) rfl rfl | assumption | exact Reads.none_ | exact reads_t0 | exact reads_u0 | exact reads_i0 | refine Reads.al ?_ _ | refine Reads.drew ?_ | refine Reads.on ?_ (by assumption))) (nat_le_max _ (by omega)) (nat_le_max _ (by omega)) rfl).mono ?_
  rintro e w5 ⟨rfl, hb5⟩
  go_wp2_with fail
  with_reducible refine (eqInts_yes A4 A6 il c4 il c6 zs zs _ (by repeat (first | exact reads_lit _ _ _ _ _ _ (by simp) rfl rfl | assumption | exact Reads.none_ | exact reads_t0 | exact reads_u0 | exact reads_i0 | refine Reads.al ?_ _ | refine Reads.drew ?_ | refine Reads.on ?_ (by assumption))) (by repeat (first | exact reads_lit _ _ _ _ _ _ (by simp) rfl rfl | assumption | exact Reads.none_ | exact reads_t0 | exact reads_u0 | exact reads_i0 | refine Reads.al ?_ _ | refine Reads.drew ?_ | refine Reads.on ?_ (by assumption))) (nat_le_max _ (by omega)) (nat_le_max _ (by omega)) rfl).mono ?_
  rintro e w6 ⟨rfl, hb6⟩
  go_wp2_with fail
  with_reducible refine (dput_is A2 q c2' ys A1 il c1 (cutTs ts) tot _ (by repeat (first | exact reads_lit _ _ _ _ _ _ (by simp) rfl rfl | assumption | exact Reads.none_ | exact reads_t0 | exact reads_u0 | exact reads_i0 | refine Reads.al ?_ _ | refine Reads.drew ?_ | refine Reads.on ?_ (by assumption))) g3 g4 (by repeat (first | exact reads_lit _ _ _ _ _ _ (by simp) rfl rfl | assumption | exact Reads.none_ | exact reads_t0 | exact reads_u0 | exact reads_i0 | refine Reads.al ?_ _ | refine Reads.drew ?_ | refine Reads.on ?_ (by assumption))) (by omega) Hmax.out Htt.out Hput.out).mono ?_
  rintro e w7 ⟨A7, c7, rfl, k9, k10, o7, hb7⟩
  have r7 := own_reads o7
  go_wp2_with fail
  with_reducible refine (refdput_is A2 q c2' ys A1 il c1 (cutTs ts) tot _ (by repeat (first | exact reads_lit _ _ _ _ _ _ (by simp) rfl rfl | assumption | exact Reads.none_ | exact reads_t0 | exact reads_u0 | exact reads_i0 | refine Reads.al ?_ _ | refine Reads.drew ?_ | refine Reads.on ?_ (by assumption))) (by repeat (first | exact reads_lit _ _ _ _ _ _ (by simp) rfl rfl | assumption | exact Reads.none_ | exact reads_t0 | exact reads_u0 | exact reads_i0 | refine Reads.al ?_ _ | refine Reads.drew ?_ | refine Reads.on ?_ (by assumption))) (by omega) Htt.out Hput.out).mono ?_
  rintro e w8 ⟨A8, c8, rfl, k11, k12, o8, hb8⟩
  have r8 := own_reads o8
  clear o7 o8
  go_wp2_with fail
  with_reducible refine (eq_yes A7 A8 _ c7 _ c8 tot tot _ (by repeat (first | exact reads_lit _ _ _ _ _ _ (by simp) rfl rfl | assumption | exact Reads.none_ | exact reads_t0 | exact reads_u0 | exact reads_i0 | refine Reads.al ?_ _ | refine Reads.drew ?_ | refine Reads.on ?_ (by assumption))) (by repeat (first | exact reads_lit _ _ _ _ _ _ (by simp) rfl rfl | assumption | exact Reads.none_ | exact reads_t0 | exact reads_u0 | exact reads_i0 | refine Reads.al ?_ _ | refine Reads.drew ?_ | refine Reads.on ?_ (by assumption))) rfl).mono ?_
  rintro e w' ⟨rfl, rfl⟩
  have o3' := own_below (own_below (own_below (own_below (own_below o3 hb4) hb5) hb6) hb7) hb8
  have rin : Reads w8 w2.heap.size 1 A1 il (txs (cutTs ts)) := by
    have hb : Below w2.heap.size w2 w8 := by repeat (first | exact Below.refl _ _ | assumption | refine bal ?_ _ | refine Below.drew ?_ | refine bon ?_ (by assumption))
    exact r1.below hb
  have rah : Reads w8 w2.heap.size 1 A2 q (u8s ys) := by
    have hb : Below w2.heap.size w2 w8 := by repeat (first | exact Below.refl _ _ | assumption | refine bal ?_ _ | refine Below.drew ?_ | refine bon ?_ (by assumption))
    exact r2.below hb
  have hsz8 : w2.heap.size ≤ w8.heap.size := by
    have hb : Below w2.heap.size w2 w8 := by repeat (first | exact Below.refl _ _ | assumption | refine bal ?_ _ | refine Below.drew ?_ | refine bon ?_ (by assumption))
    exact hb.size
  have hw2 : w.heap.size ≤ w2.heap.size := by
    have hb : Below w.heap.size w w2 := by repeat (first | exact Below.refl _ _ | assumption | refine bal ?_ _ | refine Below.drew ?_ | refine bon ?_ (by assumption))
    exact hb.size
  have hB8 : Below w.heap.size w w8 := by repeat (first | exact Below.refl _ _ | assumption | refine bal ?_ _ | refine Below.drew ?_ | refine bon ?_ (by assumption))
  have hwb : w.heap.size ≤ w8.heap.size := hB8.size
  clear r1 r2 r3 r4 r5 r6 r7 r8 hb1 hb2 hb3 hb4 hb5 hb6 hb7 hb8 o3
  go_wp2
  go_loopw [11] (fun i wr => ∃ (k : Nat) (zs : List ByteArray), k ≤ d.length ∧ i = .int .i64 (k : Int) ∧ wr.ownsRow w2.heap.size 9 1 (.slice A3 d.length c3) d.length (txs zs) ∧ Below w2.heap.size w8 wr) (fun i _ => d.length - (intOf i).toNat)
  case atStart => exact ⟨0, d, Nat.zero_le _, rfl, o3', Below.refl _ _⟩
  case round =>
    clear o3'
    obtain ⟨k, zs, hk, rfl, hown, hB⟩ := hrel
    by_cases hlt : k < d.length
    · obtain ⟨g, rfl, hg, hg2, hcell, hfz⟩ := own_at hown (by omega)
      have hzl : zs.length = d.length := by have := hown.1; simpa using this
      obtain ⟨z, hz1⟩ : ∃ z, zs[k]? = some z := ⟨_, List.getElem?_eq_getElem (by omega)⟩
      have hck := hcell k (.string z) (by simp [txs, hz1])
      have hfk := hfz k
      have hown2 := own_set hown k hlt (.string ⟨#[115, 112, 111, 105, 108, 116]⟩)
      rw [txs_set] at hown2
      have hB2 := hB.setCell (p := ⟨g, k, none⟩) hg (.string ⟨#[115, 112, 111, 105, 108, 116]⟩)
      have hkd : k ≤ 9223372036854775807 := by omega
      clear hcell hfz hown hzl hz1
      go_wp2
      go_roundw
      case rel => exact ⟨k + 1, _, by omega, by go_num, hown2, hB2⟩
      case measure => simp [intOf]; omega
    · clear hown
      have rin9 := (rin.below hB).more (Nat.le_trans hsz8 hB.size)
      have rah9 := (rah.below hB).more (Nat.le_trans hsz8 hB.size)
      have hB9 : Below w.heap.size w wr := hB8.trans (hB.mono hw2)
      have hr9 := (hr.below hB9).more hB9.size
      have hry9 := (hry.below hB9).more hB9.size
      clear rin rah hB hB8 hr hry hr2
      go_wp2_with fail
      with_reducible refine (dcut_any A l c ts _ hr9 hl hc Hz.out).mono ?_
      rintro e w10 ⟨A9, c9, rfl, g9, g10, o9, hb10⟩
      have r9 := own_reads o9
      rw [Hil.out] at r9 ⊢
      go_wp2_with fail
      with_reducible refine (eqTexts_yes A1 A9 il c1 il c9 (cutTs ts) (cutTs ts) _ (by repeat (first | exact reads_lit _ _ _ _ _ _ (by simp) rfl rfl | assumption | exact Reads.none_ | exact reads_t0 | exact reads_u0 | exact reads_i0 | refine Reads.al ?_ _ | refine Reads.drew ?_ | refine Reads.on ?_ (by assumption))) (by repeat (first | exact reads_lit _ _ _ _ _ _ (by simp) rfl rfl | assumption | exact Reads.none_ | exact reads_t0 | exact reads_u0 | exact reads_i0 | refine Reads.al ?_ _ | refine Reads.drew ?_ | refine Reads.on ?_ (by assumption))) (nat_le_max _ (by omega)) (nat_le_max _ (by omega)) rfl).mono ?_
      rintro e w11 ⟨rfl, hb11⟩
      go_wp2_with fail
      with_reducible refine (eq_yes A2 B _ _ _ _ ys ys _ (by repeat (first | exact reads_lit _ _ _ _ _ _ (by simp) rfl rfl | assumption | exact Reads.none_ | exact reads_t0 | exact reads_u0 | exact reads_i0 | refine Reads.al ?_ _ | refine Reads.drew ?_ | refine Reads.on ?_ (by assumption))) (by repeat (first | exact reads_lit _ _ _ _ _ _ (by simp) rfl rfl | assumption | exact Reads.none_ | exact reads_t0 | exact reads_u0 | exact reads_i0 | refine Reads.al ?_ _ | refine Reads.drew ?_ | refine Reads.on ?_ (by assumption))) rfl).mono ?_
      rintro e w' ⟨rfl, rfl⟩
      go_wp2_with fail
      with_reducible refine (dworks_any _).mono ?_
      rintro e w12 ⟨rfl, hb12⟩
      go_wp2
      go_ret
      exact ⟨rfl, by repeat (first | exact Below.refl _ _ | assumption | refine bal ?_ _ | refine Below.drew ?_ | refine bon ?_ (by assumption))⟩
end Go.Proofs.Ytckaohkhknoocaa
