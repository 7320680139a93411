/- The law DictBack, walked. -/
import Derived.Test.YtckaohkhknoocaaDictLawP
set_option linter.unusedVariables false
set_option linter.unusedSimpArgs false
namespace Go.Proofs.Ytckaohkhknoocaa
open Go.RowKit
theorem split_at {l : List ByteArray} {j a : Nat} {s : ByteArray} (ha : (splitL l).2[j]? = some a) (hs : l[j]? = some s) : (splitL l).1[a]? = some s := by
  obtain ⟨-, -, h3⟩ := splitL_used l
  have h := congrArg (·[j]?) h3
  simp only [List.getElem?_map, ha, hs, Option.map_some] at h
  exact Option.some.inj h
theorem split_pair {l : List ByteArray} {j k a b : Nat} {s r : ByteArray} (ha : (splitL l).2[j]? = some a) (hb : (splitL l).2[k]? = some b) (hs : l[j]? = some s) (hr : l[k]? = some r) : a = b ↔ s = r := by
  have h1 := split_at ha hs
  have h2 := split_at hb hr
  constructor
  · rintro rfl
    rw [h1] at h2
    exact Option.some.inj h2
  · rintro rfl
    have := (splitL_used l).1
    have e1 := placeL_nodup _ _ _ this h1
    have e2 := placeL_nodup _ _ _ this h2
    rw [e1] at e2
    exact Option.some.inj e2
theorem split_pre (a b : List ByteArray) : ∃ ns, (splitL (a ++ b)).2 = (splitL a).2 ++ ns := by
  unfold splitL
  rw [List.foldl_append]
  generalize a.foldl splitStep ([], []) = st
  have key : ∀ (b : List ByteArray) (st : List ByteArray × List Nat), ∃ ns, (b.foldl splitStep st).2 = st.2 ++ ns := by
    intro b
    induction b with
    | nil => intro st; exact ⟨[], by simp⟩
    | cons s b ih =>
      intro st
      rw [List.foldl_cons]
      obtain ⟨ns, h⟩ := ih (splitStep st s)
      have : ∃ n, (splitStep st s).2 = st.2 ++ [n] := by
        unfold splitStep
        split
        · exact ⟨_, rfl⟩
        · exact ⟨_, rfl⟩
      obtain ⟨n, hn⟩ := this
      exact ⟨n :: ns, by rw [h, hn]; simp⟩
  exact key b st
theorem split_first {l : List ByteArray} {i a : Nat} {s : ByteArray} (ha : (splitL l).2[i]? = some a) (hs : l[i]? = some s) :
    (s ∉ l.take i → a = (splitL (l.take i)).1.length ∧ (splitL (l.take (i + 1))).1.length = (splitL (l.take i)).1.length + 1) ∧ (s ∈ l.take i → (splitL (l.take (i + 1))).1.length = (splitL (l.take i)).1.length) := by
  have hlt : i < l.length := (List.getElem?_eq_some_iff.1 hs).1
  have hstep := splitL_take l i s hs
  have hmem := (splitL_mem l i (by omega)).1 s
  have hlen := (splitL_len (l.take i)).2
  rw [List.length_take, Nat.min_eq_left (by omega)] at hlen
  obtain ⟨ns, hns⟩ := split_pre (l.take (i + 1)) (l.drop (i + 1))
  rw [List.take_append_drop] at hns
  have hai : (splitL (l.take (i + 1))).2[i]? = some a := by
    rw [hns, List.getElem?_append_left (by rw [(splitL_len _).2, List.length_take]; omega)] at ha
    exact ha
  rw [hstep] at hai ⊢
  unfold splitStep at hai ⊢
  rcases hp : placeL (splitL (l.take i)).1 s with _ | j
  · have hno := (placeL_none _ s).1 hp
    rw [hmem] at hno
    rw [hp] at hai
    simp only at hai ⊢
    rw [List.getElem?_append_right (by omega), hlen, Nat.sub_self] at hai
    refine ⟨fun _ => ⟨by simpa using hai.symm, by simp⟩, fun h => absurd h hno⟩
  · have hyes := List.mem_of_getElem? (placeL_some _ _ _ hp)
    rw [hmem] at hyes
    exact ⟨fun h => absurd hyes h, fun _ => rfl⟩
def PairOK (t : List ByteArray) (ns : List Nat) : Prop := ∀ (j k a b : Nat) (s r : ByteArray), ns[j]? = some a → ns[k]? = some b → t[j]? = some s → t[k]? = some r → (a = b ↔ s = r)
def FirstOK (t : List ByteArray) (ns : List Nat) : Prop := ∀ (i a : Nat) (s : ByteArray), ns[i]? = some a → t[i]? = some s →
    (s ∉ t.take i → a = (splitL (t.take i)).1.length ∧ (splitL (t.take (i + 1))).1.length = (splitL (t.take i)).1.length + 1) ∧ (s ∈ t.take i → (splitL (t.take (i + 1))).1.length = (splitL (t.take i)).1.length)
set_option maxRecDepth 100000 in
set_option maxHeartbeats 4000000 in
theorem dictBack_walk (A : Option Addr) (l c : Nat) (ts : List ByteArray) (w : World) (hr : Reads w w.heap.size 1 A l (txs ts)) (hl : l ≤ c) (hc : c ≤ maxLen) (hz : ∀ s ∈ ts, s.size ≤ maxLen) :
    Calls Try.prog 6 #[.slice A l c] w fun e w' => e = .returned (.bool true) ∧ Below w.heap.size w w' := by
  have Hz := Lib.hid hz
  have hin := cutTs_len ts
  have Hmax := Lib.hid (cutTs_max ts)
  clear hz
  go_enter Try.func6, Try.ntmps6
  go_wp2_with fail
  with_reducible refine (dcut_any A l c ts _ hr hl hc Hz.out).mono ?_
  rintro e w1 ⟨A1, c1, rfl, g1, g2, o1, hb1⟩
  have r1 := own_reads o1
  clear o1
  generalize cutTs ts = t at hin Hmax r1 g1 ⊢
  generalize hil : t.length = il at hin g1 r1 ⊢
  have Hil := Lib.hid hil
  clear hil
  have hjs : joinI (splitL t).1 ((splitL t).2.map Int.ofNat) = some t := by rw [joinI_nat]; exact join_split t
  have Hjs := Lib.hid hjs
  have Hdm := Lib.hid (show ∀ s ∈ (splitL t).1, s.size ≤ maxLen from fun s hs => Hmax.out s ((split_mem t s).1 hs))
  have Hpair : Hid (PairOK t (splitL t).2) := Lib.hid (fun j k a b s r => split_pair)
  have Hfirst : Hid (FirstOK t (splitL t).2) := Lib.hid (fun i a s => split_first)
  have Hnl := Lib.hid (splitL_len t).2
  have Hsmall := Lib.hid (split_small t)
  clear hjs
  go_wp2_with fail
  with_reducible refine (split_any A1 il c1 t _ r1 (by omega) Hmax.out).mono ?_
  rintro e w2 ⟨A2, c2, A3, c3, rfl, g3, g4, g5, g6, o2, o3, hb2⟩
  have r2 := own_reads o2
  have r3 := own_reads o3
  have r3i := r3
  rw [nns_ins] at r3i
  rw [Hil.out] at r3 r3i g5 ⊢
  clear o2 o3
  have hdl := (splitL_len t).1
  rw [Hil.out] at hdl
  have Hdl0 : Hid ((splitL (t.take il)).1.length = (splitL t).1.length) := Lib.hid (by rw [List.take_of_length_le (by rw [Hil.out]; exact Nat.le_refl _)])
  generalize (splitL t).2 = ns at r3 r3i Hjs Hpair Hfirst Hnl Hsmall
  generalize (splitL t).1 = d at r2 g3 hdl Hjs Hdm Hdl0 Hsmall ⊢
  generalize hdd : d.length = dl at r2 g3 hdl Hdl0 Hsmall ⊢
  have Hdd := Lib.hid hdd
  clear hdd
  have Hb : Hid (∀ x ∈ ns.map Int.ofNat, -9223372036854775808 ≤ x ∧ x ≤ 9223372036854775807) := Lib.hid (fun x hx => by
    obtain ⟨n, hn, rfl⟩ := List.mem_map.1 hx
    have h1 := Hsmall.out n hn
    have h2 : ((Int.ofNat n) : Int) = (n : Int) := rfl
    omega)
  go_wp2_with fail
  with_reducible refine (join_any A2 dl c2 d A3 il c3 (ns.map Int.ofNat) _ r2 (by omega) Hdm.out r3i (by omega) Hb.out).mono ?_
  rw [Hjs.out]
  rintro e w3 ⟨A4, c4, rfl, g7, g8, o4, hb3⟩
  simp only [Option.getD_some, Option.isSome_some, if_true, Hil.out] at o4 g7 ⊢
  have r4 := own_reads o4
  go_wp2_with fail
  with_reducible refine (eqTexts_yes A4 A1 il c4 il c1 t t _ (by repeat (first | exact reads_lit _ _ _ _ _ _ (by simp) rfl rfl | assumption | exact Reads.none_ | exact reads_t0 | exact reads_u0 | exact reads_i0 | refine Reads.al ?_ _ | refine Reads.drew ?_ | refine Reads.on ?_ (by assumption))) (by repeat (first | exact reads_lit _ _ _ _ _ _ (by simp) rfl rfl | assumption | exact Reads.none_ | exact reads_t0 | exact reads_u0 | exact reads_i0 | refine Reads.al ?_ _ | refine Reads.drew ?_ | refine Reads.on ?_ (by assumption))) (nat_le_max _ (by omega)) (nat_le_max _ (by omega)) rfl).mono ?_
  rintro e w4 ⟨rfl, hb4⟩
  have q1 : Reads w4 w4.heap.size 1 A1 il (txs t) := ((r1.on hb2).on hb3).on hb4
  have q3 : Reads w4 w4.heap.size 1 A3 il (nns ns) := (r3.on hb3).on hb4
  have hw4 : Below w.heap.size w w4 := bon (bon (bon hb1 hb2) hb3) hb4
  have hws := hw4.size
  clear r1 r2 r3 r3i r4 o4 hb1 hb2 hb3 hb4 Hjs Hb Hdm Hmax
  go_wp2
  go_loopw [8, 9] (fun u i wr => ∃ k un : Nat, k ≤ il ∧ un ≤ k ∧ u = .int .i64 (un : Int) ∧ i = .int .i64 (k : Int) ∧ Hid (un = (splitL (t.take k)).1.length) ∧ Below w4.heap.size w4 wr) (fun _ i _ => il - (intOf i).toNat)
  case atStart => exact ⟨0, 0, Nat.zero_le _, Nat.le_refl _, rfl, rfl, Lib.hid rfl, Below.refl _ _⟩
  case round =>
    obtain ⟨k, un, hk, hun, rfl, rfl, hu, hB⟩ := hrel
    by_cases hlt : k < il
    · obtain ⟨ad, v, rfl, hbk, hx, hcell⟩ := q1.at_ hlt
      obtain ⟨s, hs', rfl⟩ := txs_get _ _ _ hx
      obtain ⟨an, v, rfl, hbn, hxn, hcelln⟩ := q3.at_ hlt
      obtain ⟨a, ha', rfl⟩ := nns_get _ _ _ hxn
      have Hs := Lib.hid hs'
      have Ha := Lib.hid ha'
      have hfa := Hsmall.out a (List.mem_of_getElem? ha')
      have HLs := Lib.hid (show ∀ w', Below w4.heap.size w4 w' → w'.cell? (ad.add k) = some (.string s) from fun w' h => by rw [h.cell (p := ad.add k) (by rw [block_of_add]; exact hbk)]; exact hcell)
      have HLa := Lib.hid (show ∀ w', Below w4.heap.size w4 w' → w'.cell? (an.add k) = some (.int .i64 (a : Int)) from fun w' h => by rw [h.cell (p := an.add k) (by rw [block_of_add]; exact hbn)]; exact hcelln)
      clear hx hxn hs' ha' hcell hcelln
      go_wp2
      go_loopw [10, 11] (fun b j wr => ∃ (m : Nat) (fb : Bool), m ≤ k ∧ b = .bool fb ∧ j = .int .i64 (m : Int) ∧ Hid (fb = true ↔ s ∉ t.take m) ∧ Below w4.heap.size w4 wr) (fun _ j _ => k - (intOf j).toNat)
      case atStart => exact ⟨0, true, Nat.zero_le _, rfl, rfl, Lib.hid (by simp), hB⟩
      case round =>
        clear hB
        obtain ⟨m, fb, hm, rfl, rfl, hfb, hB⟩ := hrel
        by_cases hlt2 : m < k
        · obtain ⟨ad2, v, e2, hbk2, hx, hcell⟩ := q1.at_ (k := m) (by omega)
          obtain rfl : ad = ad2 := Option.some.inj e2
          obtain ⟨r, hr', rfl⟩ := txs_get _ _ _ hx
          obtain ⟨an2, v, e2, hbn2, hxn, hcelln⟩ := q3.at_ (k := m) (by omega)
          obtain rfl : an = an2 := Option.some.inj e2
          obtain ⟨b, hb', rfl⟩ := nns_get _ _ _ hxn
          have hpair := Hpair.out _ _ _ _ _ _ hb' Ha.out hr' Hs.out
          have hfb2 : ∀ fb2 : Bool, (fb2 = true ↔ (fb = true ∧ r ≠ s)) → (fb2 = true ↔ s ∉ t.take (m + 1)) := fun fb2 h => by
            rw [h, hfb.out, List.take_add_one, hr', List.mem_append, not_or]
            simp only [Option.toList_some, List.mem_singleton]
            exact ⟨fun h => ⟨h.1, fun e => h.2 e.symm⟩, fun h => ⟨h.1, fun e => h.2 e.symm⟩⟩
          have HLr := Lib.hid (show ∀ w', Below w4.heap.size w4 w' → w'.cell? (ad.add m) = some (.string r) from fun w' h => by rw [h.cell (p := ad.add m) (by rw [block_of_add]; exact hbk)]; exact hcell)
          have HLb := Lib.hid (show ∀ w', Below w4.heap.size w4 w' → w'.cell? (an.add m) = some (.int .i64 (b : Int)) from fun w' h => by rw [h.cell (p := an.add m) (by rw [block_of_add]; exact hbn)]; exact hcelln)
          have hmil : m < il := by omega
          clear hx hxn hcell hcelln hr' hb' e2
          by_cases hab : r = s
          · have e1 : ((b : Int) == (a : Int)) = true := by have := hpair.2 hab; simp; omega
            have e3 : (r.toList == s.toList) = true := by rw [hab]; simp
            have Hfb2 := Lib.hid (hfb2 false (by simp [hab]))
            clear hab hpair hfb2 hfb
            go_wp2
            have hS := hB.drew
            refine wp_region_keep (Below w4.heap.size w4) [(0, false), (1, false), (2, false), (3, false), (4, false), (5, false), (6, false), (7, false), (8, false), (9, false), (10, false), (11, false), (12, false), (13, false), (14, false), (15, false), (16, false), (17, false), (18, false)] (by kernel_rfl) (by kernel_rfl) (by kernel_rfl) (fun d _ _ _ _ h => by cases d <;> exact h) ?_
            refine held_pure (v := ?_) rfl rfl (by simp [Region.wanted, yielded]) hS ?_ ?_
            rotate_left
            · intro w hw; go_simp; try with_reducible rfl
            try simp only [Act.put, List.setIfInBounds_toArray, List.set_cons_succ, List.set_cons_zero]
            refine held_pure (v := ?_) rfl rfl (by simp [Region.wanted, yielded]) hS ?_ ?_
            rotate_left
            · intro w hw; go_simp; try with_reducible rfl
            try simp only [Act.put, List.setIfInBounds_toArray, List.set_cons_succ, List.set_cons_zero]
            refine held_pure (v := ?_) rfl rfl (by simp [Region.wanted, yielded]) hS ?_ ?_
            rotate_left
            · intro w hw; go_simp; try with_reducible rfl
            try simp only [Act.put, List.setIfInBounds_toArray, List.set_cons_succ, List.set_cons_zero]
            refine held_pure (v := ?_) rfl rfl (by simp [Region.wanted, yielded]) hS ?_ ?_
            rotate_left
            · intro w hw; have c0 := HLb.out w hw; clear hw; go_simp; try with_reducible rfl
            try simp only [Act.put, List.setIfInBounds_toArray, List.set_cons_succ, List.set_cons_zero]
            refine held_pure (v := ?_) rfl rfl (by simp [Region.wanted, yielded]) hS ?_ ?_
            rotate_left
            · intro w hw; go_simp; try with_reducible rfl
            try simp only [Act.put, List.setIfInBounds_toArray, List.set_cons_succ, List.set_cons_zero]
            refine held_pure (v := ?_) rfl rfl (by simp [Region.wanted, yielded]) hS ?_ ?_
            rotate_left
            · intro w hw; go_simp; try with_reducible rfl
            try simp only [Act.put, List.setIfInBounds_toArray, List.set_cons_succ, List.set_cons_zero]
            refine held_pure (v := ?_) rfl rfl (by simp [Region.wanted, yielded]) hS ?_ ?_
            rotate_left
            · intro w hw; go_simp; try with_reducible rfl
            try simp only [Act.put, List.setIfInBounds_toArray, List.set_cons_succ, List.set_cons_zero]
            refine held_pure (v := ?_) rfl rfl (by simp [Region.wanted, yielded]) hS ?_ ?_
            rotate_left
            · intro w hw; have c0 := HLa.out w hw; clear hw; go_simp; try with_reducible rfl
            try simp only [Act.put, List.setIfInBounds_toArray, List.set_cons_succ, List.set_cons_zero]
            refine held_pure (v := ?_) rfl rfl (by simp [Region.wanted, yielded]) hS ?_ ?_
            rotate_left
            · intro w hw; go_simp; try with_reducible rfl
            try simp only [Act.put, List.setIfInBounds_toArray, List.set_cons_succ, List.set_cons_zero]
            refine held_pure (v := ?_) rfl rfl (by simp [Region.wanted, yielded]) hS ?_ ?_
            rotate_left
            · intro w hw; go_simp; try with_reducible rfl
            try simp only [Act.put, List.setIfInBounds_toArray, List.set_cons_succ, List.set_cons_zero]
            refine held_pure (v := ?_) rfl rfl (by simp [Region.wanted, yielded]) hS ?_ ?_
            rotate_left
            · intro w hw; go_simp; try with_reducible rfl
            try simp only [Act.put, List.setIfInBounds_toArray, List.set_cons_succ, List.set_cons_zero]
            refine held_pure (v := ?_) rfl rfl (by simp [Region.wanted, yielded]) hS ?_ ?_
            rotate_left
            · intro w hw; go_simp; try with_reducible rfl
            try simp only [Act.put, List.setIfInBounds_toArray, List.set_cons_succ, List.set_cons_zero]
            refine held_pure (v := ?_) rfl rfl (by simp [Region.wanted, yielded]) hS ?_ ?_
            rotate_left
            · intro w hw; have c0 := HLr.out w hw; clear hw; go_simp; try with_reducible rfl
            try simp only [Act.put, List.setIfInBounds_toArray, List.set_cons_succ, List.set_cons_zero]
            refine held_pure (v := ?_) rfl rfl (by simp [Region.wanted, yielded]) hS ?_ ?_
            rotate_left
            · intro w hw; go_simp; try with_reducible rfl
            try simp only [Act.put, List.setIfInBounds_toArray, List.set_cons_succ, List.set_cons_zero]
            refine held_pure (v := ?_) rfl rfl (by simp [Region.wanted, yielded]) hS ?_ ?_
            rotate_left
            · intro w hw; go_simp; try with_reducible rfl
            try simp only [Act.put, List.setIfInBounds_toArray, List.set_cons_succ, List.set_cons_zero]
            refine held_pure (v := ?_) rfl rfl (by simp [Region.wanted, yielded]) hS ?_ ?_
            rotate_left
            · intro w hw; go_simp; try with_reducible rfl
            try simp only [Act.put, List.setIfInBounds_toArray, List.set_cons_succ, List.set_cons_zero]
            refine held_pure (v := ?_) rfl rfl (by simp [Region.wanted, yielded]) hS ?_ ?_
            rotate_left
            · intro w hw; have c0 := HLs.out w hw; clear hw; go_simp; try with_reducible rfl
            try simp only [Act.put, List.setIfInBounds_toArray, List.set_cons_succ, List.set_cons_zero]
            refine held_pure (v := ?_) rfl rfl (by simp [Region.wanted, yielded]) hS ?_ ?_
            rotate_left
            · intro w hw; go_simp; try with_reducible rfl
            try simp only [Act.put, List.setIfInBounds_toArray, List.set_cons_succ, List.set_cons_zero]
            refine held_pure (v := ?_) rfl rfl (by simp [Region.wanted, yielded]) hS ?_ ?_
            rotate_left
            · intro w hw; go_simp; try with_reducible rfl
            try simp only [Act.put, List.setIfInBounds_toArray, List.set_cons_succ, List.set_cons_zero]
            refine held_end ?_
            go_wp2
            have hS2 := hS
            clear hS
            have hS := hS2.drew
            rcases fb with _ | _
            · refine wp_region_keep (Below w4.heap.size w4) [(0, false), (1, false), (2, false), (3, false), (4, false), (5, false), (6, false), (7, false), (8, false), (9, false), (10, false), (11, false), (12, false)] (by kernel_rfl) (by kernel_rfl) (by kernel_rfl) (fun d _ _ _ _ h => by cases d <;> exact h) ?_
              refine held_pure (v := ?_) rfl rfl (by simp [Region.wanted, yielded]) hS ?_ ?_
              rotate_left
              · intro w hw; go_simp; try with_reducible rfl
              try simp only [Act.put, List.setIfInBounds_toArray, List.set_cons_succ, List.set_cons_zero]
              refine held_pure (v := ?_) rfl rfl (by simp [Region.wanted, yielded]) hS ?_ ?_
              rotate_left
              · intro w hw; go_simp; try with_reducible rfl
              try simp only [Act.put, List.setIfInBounds_toArray, List.set_cons_succ, List.set_cons_zero]
              refine held_off rfl rfl (by simp [Region.wanted, yielded, undef]) hS ?_
              simp only [Act.put, List.setIfInBounds_toArray, List.set_cons_succ, List.set_cons_zero]
              refine held_off rfl rfl (by simp [Region.wanted, yielded, undef]) hS ?_
              simp only [Act.put, List.setIfInBounds_toArray, List.set_cons_succ, List.set_cons_zero]
              refine held_off rfl rfl (by simp [Region.wanted, yielded, undef]) hS ?_
              simp only [Act.put, List.setIfInBounds_toArray, List.set_cons_succ, List.set_cons_zero]
              refine held_off rfl rfl (by simp [Region.wanted, yielded, undef]) hS ?_
              simp only [Act.put, List.setIfInBounds_toArray, List.set_cons_succ, List.set_cons_zero]
              refine held_off rfl rfl (by simp [Region.wanted, yielded, undef]) hS ?_
              simp only [Act.put, List.setIfInBounds_toArray, List.set_cons_succ, List.set_cons_zero]
              refine held_off rfl rfl (by simp [Region.wanted, yielded, undef]) hS ?_
              simp only [Act.put, List.setIfInBounds_toArray, List.set_cons_succ, List.set_cons_zero]
              refine held_off rfl rfl (by simp [Region.wanted, yielded, undef]) hS ?_
              simp only [Act.put, List.setIfInBounds_toArray, List.set_cons_succ, List.set_cons_zero]
              refine held_off rfl rfl (by simp [Region.wanted, yielded, undef]) hS ?_
              simp only [Act.put, List.setIfInBounds_toArray, List.set_cons_succ, List.set_cons_zero]
              refine held_off rfl rfl (by simp [Region.wanted, yielded, undef]) hS ?_
              simp only [Act.put, List.setIfInBounds_toArray, List.set_cons_succ, List.set_cons_zero]
              refine held_pure (v := ?_) rfl rfl (by simp [Region.wanted, yielded]) hS ?_ ?_
              rotate_left
              · intro w hw; go_simp; try with_reducible rfl
              try simp only [Act.put, List.setIfInBounds_toArray, List.set_cons_succ, List.set_cons_zero]
              refine held_pure (v := ?_) rfl rfl (by simp [Region.wanted, yielded]) hS ?_ ?_
              rotate_left
              · intro w hw; go_simp; try with_reducible rfl
              try simp only [Act.put, List.setIfInBounds_toArray, List.set_cons_succ, List.set_cons_zero]
              refine held_end ?_
              clear hS2 hB
              go_wp2
              go_roundw
              case rel => exact ⟨m + 1, _, by omega, rfl, by go_num, Hfb2, hS⟩
              case measure => simp [intOf]; omega
            · refine wp_region_keep (Below w4.heap.size w4) [(0, false), (1, false), (2, false), (3, false), (4, false), (5, false), (6, false), (7, false), (8, false), (9, false), (10, false), (11, false), (12, false)] (by kernel_rfl) (by kernel_rfl) (by kernel_rfl) (fun d _ _ _ _ h => by cases d <;> exact h) ?_
              refine held_pure (v := ?_) rfl rfl (by simp [Region.wanted, yielded]) hS ?_ ?_
              rotate_left
              · intro w hw; go_simp; try with_reducible rfl
              try simp only [Act.put, List.setIfInBounds_toArray, List.set_cons_succ, List.set_cons_zero]
              refine held_pure (v := ?_) rfl rfl (by simp [Region.wanted, yielded]) hS ?_ ?_
              rotate_left
              · intro w hw; go_simp; try with_reducible rfl
              try simp only [Act.put, List.setIfInBounds_toArray, List.set_cons_succ, List.set_cons_zero]
              refine held_pure (v := ?_) rfl rfl (by simp [Region.wanted, yielded]) hS ?_ ?_
              rotate_left
              · intro w hw; go_simp; try with_reducible rfl
              try simp only [Act.put, List.setIfInBounds_toArray, List.set_cons_succ, List.set_cons_zero]
              refine held_pure (v := ?_) rfl rfl (by simp [Region.wanted, yielded]) hS ?_ ?_
              rotate_left
              · intro w hw; go_simp; try with_reducible rfl
              try simp only [Act.put, List.setIfInBounds_toArray, List.set_cons_succ, List.set_cons_zero]
              refine held_pure (v := ?_) rfl rfl (by simp [Region.wanted, yielded]) hS ?_ ?_
              rotate_left
              · intro w hw; go_simp; try with_reducible rfl
              try simp only [Act.put, List.setIfInBounds_toArray, List.set_cons_succ, List.set_cons_zero]
              refine held_pure (v := ?_) rfl rfl (by simp [Region.wanted, yielded]) hS ?_ ?_
              rotate_left
              · intro w hw; have c0 := HLr.out w hw; clear hw; go_simp; try with_reducible rfl
              try simp only [Act.put, List.setIfInBounds_toArray, List.set_cons_succ, List.set_cons_zero]
              refine held_pure (v := ?_) rfl rfl (by simp [Region.wanted, yielded]) hS ?_ ?_
              rotate_left
              · intro w hw; go_simp; try with_reducible rfl
              try simp only [Act.put, List.setIfInBounds_toArray, List.set_cons_succ, List.set_cons_zero]
              refine held_pure (v := ?_) rfl rfl (by simp [Region.wanted, yielded]) hS ?_ ?_
              rotate_left
              · intro w hw; go_simp; try with_reducible rfl
              try simp only [Act.put, List.setIfInBounds_toArray, List.set_cons_succ, List.set_cons_zero]
              refine held_pure (v := ?_) rfl rfl (by simp [Region.wanted, yielded]) hS ?_ ?_
              rotate_left
              · intro w hw; go_simp; try with_reducible rfl
              try simp only [Act.put, List.setIfInBounds_toArray, List.set_cons_succ, List.set_cons_zero]
              refine held_pure (v := ?_) rfl rfl (by simp [Region.wanted, yielded]) hS ?_ ?_
              rotate_left
              · intro w hw; have c0 := HLs.out w hw; clear hw; go_simp; try with_reducible rfl
              try simp only [Act.put, List.setIfInBounds_toArray, List.set_cons_succ, List.set_cons_zero]
              refine held_pure (v := ?_) rfl rfl (by simp [Region.wanted, yielded]) hS ?_ ?_
              rotate_left
              · intro w hw; go_simp; try with_reducible rfl
              try simp only [Act.put, List.setIfInBounds_toArray, List.set_cons_succ, List.set_cons_zero]
              refine held_pure (v := ?_) rfl rfl (by simp [Region.wanted, yielded]) hS ?_ ?_
              rotate_left
              · intro w hw; go_simp; try with_reducible rfl
              try simp only [Act.put, List.setIfInBounds_toArray, List.set_cons_succ, List.set_cons_zero]
              refine held_pure (v := ?_) rfl rfl (by simp [Region.wanted, yielded]) hS ?_ ?_
              rotate_left
              · intro w hw; go_simp; try with_reducible rfl
              try simp only [Act.put, List.setIfInBounds_toArray, List.set_cons_succ, List.set_cons_zero]
              refine held_end ?_
              clear hS2 hB
              go_wp2
              go_roundw
              case rel => exact ⟨m + 1, _, by omega, rfl, by go_num, Hfb2, hS⟩
              case measure => simp [intOf]; omega
          · have e1 : ((b : Int) == (a : Int)) = false := by have h : ¬ b = a := fun e => hab (hpair.1 e); simp; omega
            have e3 : (r.toList == s.toList) = false := by rw [Lib.bytes_beq_false_iff]; exact hab
            have Hfb2 := Lib.hid (hfb2 fb (by simp [hab]))
            clear hab hpair hfb2 hfb
            go_wp2
            have hS := hB.drew
            refine wp_region_keep (Below w4.heap.size w4) [(0, false), (1, false), (2, false), (3, false), (4, false), (5, false), (6, false), (7, false), (8, false), (9, false), (10, false), (11, false), (12, false), (13, false), (14, false), (15, false), (16, false), (17, false), (18, false)] (by kernel_rfl) (by kernel_rfl) (by kernel_rfl) (fun d _ _ _ _ h => by cases d <;> exact h) ?_
            refine held_pure (v := ?_) rfl rfl (by simp [Region.wanted, yielded]) hS ?_ ?_
            rotate_left
            · intro w hw; go_simp; try with_reducible rfl
            try simp only [Act.put, List.setIfInBounds_toArray, List.set_cons_succ, List.set_cons_zero]
            refine held_pure (v := ?_) rfl rfl (by simp [Region.wanted, yielded]) hS ?_ ?_
            rotate_left
            · intro w hw; go_simp; try with_reducible rfl
            try simp only [Act.put, List.setIfInBounds_toArray, List.set_cons_succ, List.set_cons_zero]
            refine held_pure (v := ?_) rfl rfl (by simp [Region.wanted, yielded]) hS ?_ ?_
            rotate_left
            · intro w hw; go_simp; try with_reducible rfl
            try simp only [Act.put, List.setIfInBounds_toArray, List.set_cons_succ, List.set_cons_zero]
            refine held_pure (v := ?_) rfl rfl (by simp [Region.wanted, yielded]) hS ?_ ?_
            rotate_left
            · intro w hw; have c0 := HLb.out w hw; clear hw; go_simp; try with_reducible rfl
            try simp only [Act.put, List.setIfInBounds_toArray, List.set_cons_succ, List.set_cons_zero]
            refine held_pure (v := ?_) rfl rfl (by simp [Region.wanted, yielded]) hS ?_ ?_
            rotate_left
            · intro w hw; go_simp; try with_reducible rfl
            try simp only [Act.put, List.setIfInBounds_toArray, List.set_cons_succ, List.set_cons_zero]
            refine held_pure (v := ?_) rfl rfl (by simp [Region.wanted, yielded]) hS ?_ ?_
            rotate_left
            · intro w hw; go_simp; try with_reducible rfl
            try simp only [Act.put, List.setIfInBounds_toArray, List.set_cons_succ, List.set_cons_zero]
            refine held_pure (v := ?_) rfl rfl (by simp [Region.wanted, yielded]) hS ?_ ?_
            rotate_left
            · intro w hw; go_simp; try with_reducible rfl
            try simp only [Act.put, List.setIfInBounds_toArray, List.set_cons_succ, List.set_cons_zero]
            refine held_pure (v := ?_) rfl rfl (by simp [Region.wanted, yielded]) hS ?_ ?_
            rotate_left
            · intro w hw; have c0 := HLa.out w hw; clear hw; go_simp; try with_reducible rfl
            try simp only [Act.put, List.setIfInBounds_toArray, List.set_cons_succ, List.set_cons_zero]
            refine held_pure (v := ?_) rfl rfl (by simp [Region.wanted, yielded]) hS ?_ ?_
            rotate_left
            · intro w hw; go_simp; try with_reducible rfl
            try simp only [Act.put, List.setIfInBounds_toArray, List.set_cons_succ, List.set_cons_zero]
            refine held_pure (v := ?_) rfl rfl (by simp [Region.wanted, yielded]) hS ?_ ?_
            rotate_left
            · intro w hw; go_simp; try with_reducible rfl
            try simp only [Act.put, List.setIfInBounds_toArray, List.set_cons_succ, List.set_cons_zero]
            refine held_pure (v := ?_) rfl rfl (by simp [Region.wanted, yielded]) hS ?_ ?_
            rotate_left
            · intro w hw; go_simp; try with_reducible rfl
            try simp only [Act.put, List.setIfInBounds_toArray, List.set_cons_succ, List.set_cons_zero]
            refine held_pure (v := ?_) rfl rfl (by simp [Region.wanted, yielded]) hS ?_ ?_
            rotate_left
            · intro w hw; go_simp; try with_reducible rfl
            try simp only [Act.put, List.setIfInBounds_toArray, List.set_cons_succ, List.set_cons_zero]
            refine held_pure (v := ?_) rfl rfl (by simp [Region.wanted, yielded]) hS ?_ ?_
            rotate_left
            · intro w hw; have c0 := HLr.out w hw; clear hw; go_simp; try with_reducible rfl
            try simp only [Act.put, List.setIfInBounds_toArray, List.set_cons_succ, List.set_cons_zero]
            refine held_pure (v := ?_) rfl rfl (by simp [Region.wanted, yielded]) hS ?_ ?_
            rotate_left
            · intro w hw; go_simp; try with_reducible rfl
            try simp only [Act.put, List.setIfInBounds_toArray, List.set_cons_succ, List.set_cons_zero]
            refine held_pure (v := ?_) rfl rfl (by simp [Region.wanted, yielded]) hS ?_ ?_
            rotate_left
            · intro w hw; go_simp; try with_reducible rfl
            try simp only [Act.put, List.setIfInBounds_toArray, List.set_cons_succ, List.set_cons_zero]
            refine held_pure (v := ?_) rfl rfl (by simp [Region.wanted, yielded]) hS ?_ ?_
            rotate_left
            · intro w hw; go_simp; try with_reducible rfl
            try simp only [Act.put, List.setIfInBounds_toArray, List.set_cons_succ, List.set_cons_zero]
            refine held_pure (v := ?_) rfl rfl (by simp [Region.wanted, yielded]) hS ?_ ?_
            rotate_left
            · intro w hw; have c0 := HLs.out w hw; clear hw; go_simp; try with_reducible rfl
            try simp only [Act.put, List.setIfInBounds_toArray, List.set_cons_succ, List.set_cons_zero]
            refine held_pure (v := ?_) rfl rfl (by simp [Region.wanted, yielded]) hS ?_ ?_
            rotate_left
            · intro w hw; go_simp; try with_reducible rfl
            try simp only [Act.put, List.setIfInBounds_toArray, List.set_cons_succ, List.set_cons_zero]
            refine held_pure (v := ?_) rfl rfl (by simp [Region.wanted, yielded]) hS ?_ ?_
            rotate_left
            · intro w hw; go_simp; try with_reducible rfl
            try simp only [Act.put, List.setIfInBounds_toArray, List.set_cons_succ, List.set_cons_zero]
            refine held_end ?_
            go_wp2
            have hS2 := hS
            clear hS
            have hS := hS2.drew
            rcases fb with _ | _
            · refine wp_region_keep (Below w4.heap.size w4) [(0, false), (1, false), (2, false), (3, false), (4, false), (5, false), (6, false), (7, false), (8, false), (9, false), (10, false), (11, false), (12, false)] (by kernel_rfl) (by kernel_rfl) (by kernel_rfl) (fun d _ _ _ _ h => by cases d <;> exact h) ?_
              refine held_pure (v := ?_) rfl rfl (by simp [Region.wanted, yielded]) hS ?_ ?_
              rotate_left
              · intro w hw; go_simp; try with_reducible rfl
              try simp only [Act.put, List.setIfInBounds_toArray, List.set_cons_succ, List.set_cons_zero]
              refine held_pure (v := ?_) rfl rfl (by simp [Region.wanted, yielded]) hS ?_ ?_
              rotate_left
              · intro w hw; go_simp; try with_reducible rfl
              try simp only [Act.put, List.setIfInBounds_toArray, List.set_cons_succ, List.set_cons_zero]
              refine held_off rfl rfl (by simp [Region.wanted, yielded, undef]) hS ?_
              simp only [Act.put, List.setIfInBounds_toArray, List.set_cons_succ, List.set_cons_zero]
              refine held_off rfl rfl (by simp [Region.wanted, yielded, undef]) hS ?_
              simp only [Act.put, List.setIfInBounds_toArray, List.set_cons_succ, List.set_cons_zero]
              refine held_off rfl rfl (by simp [Region.wanted, yielded, undef]) hS ?_
              simp only [Act.put, List.setIfInBounds_toArray, List.set_cons_succ, List.set_cons_zero]
              refine held_off rfl rfl (by simp [Region.wanted, yielded, undef]) hS ?_
              simp only [Act.put, List.setIfInBounds_toArray, List.set_cons_succ, List.set_cons_zero]
              refine held_off rfl rfl (by simp [Region.wanted, yielded, undef]) hS ?_
              simp only [Act.put, List.setIfInBounds_toArray, List.set_cons_succ, List.set_cons_zero]
              refine held_off rfl rfl (by simp [Region.wanted, yielded, undef]) hS ?_
              simp only [Act.put, List.setIfInBounds_toArray, List.set_cons_succ, List.set_cons_zero]
              refine held_off rfl rfl (by simp [Region.wanted, yielded, undef]) hS ?_
              simp only [Act.put, List.setIfInBounds_toArray, List.set_cons_succ, List.set_cons_zero]
              refine held_off rfl rfl (by simp [Region.wanted, yielded, undef]) hS ?_
              simp only [Act.put, List.setIfInBounds_toArray, List.set_cons_succ, List.set_cons_zero]
              refine held_off rfl rfl (by simp [Region.wanted, yielded, undef]) hS ?_
              simp only [Act.put, List.setIfInBounds_toArray, List.set_cons_succ, List.set_cons_zero]
              refine held_pure (v := ?_) rfl rfl (by simp [Region.wanted, yielded]) hS ?_ ?_
              rotate_left
              · intro w hw; go_simp; try with_reducible rfl
              try simp only [Act.put, List.setIfInBounds_toArray, List.set_cons_succ, List.set_cons_zero]
              refine held_pure (v := ?_) rfl rfl (by simp [Region.wanted, yielded]) hS ?_ ?_
              rotate_left
              · intro w hw; go_simp; try with_reducible rfl
              try simp only [Act.put, List.setIfInBounds_toArray, List.set_cons_succ, List.set_cons_zero]
              refine held_end ?_
              clear hS2 hB
              go_wp2
              go_roundw
              case rel => exact ⟨m + 1, _, by omega, rfl, by go_num, Hfb2, hS⟩
              case measure => simp [intOf]; omega
            · refine wp_region_keep (Below w4.heap.size w4) [(0, false), (1, false), (2, false), (3, false), (4, false), (5, false), (6, false), (7, false), (8, false), (9, false), (10, false), (11, false), (12, false)] (by kernel_rfl) (by kernel_rfl) (by kernel_rfl) (fun d _ _ _ _ h => by cases d <;> exact h) ?_
              refine held_pure (v := ?_) rfl rfl (by simp [Region.wanted, yielded]) hS ?_ ?_
              rotate_left
              · intro w hw; go_simp; try with_reducible rfl
              try simp only [Act.put, List.setIfInBounds_toArray, List.set_cons_succ, List.set_cons_zero]
              refine held_pure (v := ?_) rfl rfl (by simp [Region.wanted, yielded]) hS ?_ ?_
              rotate_left
              · intro w hw; go_simp; try with_reducible rfl
              try simp only [Act.put, List.setIfInBounds_toArray, List.set_cons_succ, List.set_cons_zero]
              refine held_pure (v := ?_) rfl rfl (by simp [Region.wanted, yielded]) hS ?_ ?_
              rotate_left
              · intro w hw; go_simp; try with_reducible rfl
              try simp only [Act.put, List.setIfInBounds_toArray, List.set_cons_succ, List.set_cons_zero]
              refine held_pure (v := ?_) rfl rfl (by simp [Region.wanted, yielded]) hS ?_ ?_
              rotate_left
              · intro w hw; go_simp; try with_reducible rfl
              try simp only [Act.put, List.setIfInBounds_toArray, List.set_cons_succ, List.set_cons_zero]
              refine held_pure (v := ?_) rfl rfl (by simp [Region.wanted, yielded]) hS ?_ ?_
              rotate_left
              · intro w hw; go_simp; try with_reducible rfl
              try simp only [Act.put, List.setIfInBounds_toArray, List.set_cons_succ, List.set_cons_zero]
              refine held_pure (v := ?_) rfl rfl (by simp [Region.wanted, yielded]) hS ?_ ?_
              rotate_left
              · intro w hw; have c0 := HLr.out w hw; clear hw; go_simp; try with_reducible rfl
              try simp only [Act.put, List.setIfInBounds_toArray, List.set_cons_succ, List.set_cons_zero]
              refine held_pure (v := ?_) rfl rfl (by simp [Region.wanted, yielded]) hS ?_ ?_
              rotate_left
              · intro w hw; go_simp; try with_reducible rfl
              try simp only [Act.put, List.setIfInBounds_toArray, List.set_cons_succ, List.set_cons_zero]
              refine held_pure (v := ?_) rfl rfl (by simp [Region.wanted, yielded]) hS ?_ ?_
              rotate_left
              · intro w hw; go_simp; try with_reducible rfl
              try simp only [Act.put, List.setIfInBounds_toArray, List.set_cons_succ, List.set_cons_zero]
              refine held_pure (v := ?_) rfl rfl (by simp [Region.wanted, yielded]) hS ?_ ?_
              rotate_left
              · intro w hw; go_simp; try with_reducible rfl
              try simp only [Act.put, List.setIfInBounds_toArray, List.set_cons_succ, List.set_cons_zero]
              refine held_pure (v := ?_) rfl rfl (by simp [Region.wanted, yielded]) hS ?_ ?_
              rotate_left
              · intro w hw; have c0 := HLs.out w hw; clear hw; go_simp; try with_reducible rfl
              try simp only [Act.put, List.setIfInBounds_toArray, List.set_cons_succ, List.set_cons_zero]
              refine held_pure (v := ?_) rfl rfl (by simp [Region.wanted, yielded]) hS ?_ ?_
              rotate_left
              · intro w hw; go_simp; try with_reducible rfl
              try simp only [Act.put, List.setIfInBounds_toArray, List.set_cons_succ, List.set_cons_zero]
              refine held_pure (v := ?_) rfl rfl (by simp [Region.wanted, yielded]) hS ?_ ?_
              rotate_left
              · intro w hw; go_simp; try with_reducible rfl
              try simp only [Act.put, List.setIfInBounds_toArray, List.set_cons_succ, List.set_cons_zero]
              refine held_pure (v := ?_) rfl rfl (by simp [Region.wanted, yielded]) hS ?_ ?_
              rotate_left
              · intro w hw; go_simp; try with_reducible rfl
              try simp only [Act.put, List.setIfInBounds_toArray, List.set_cons_succ, List.set_cons_zero]
              refine held_end ?_
              clear hS2 hB
              go_wp2
              go_roundw
              case rel => exact ⟨m + 1, _, by omega, rfl, by go_num, Hfb2, hS⟩
              case measure => simp [intOf]; omega
        · have hmk : m = k := by omega
          have hf0 := hfb.out
          rw [hmk] at hf0
          obtain ⟨f1, f2⟩ := Hfirst.out _ _ _ Ha.out Hs.out
          have hca := HLa.out wr hB
          rcases fb with _ | _
          · have hmem : s ∈ t.take k := by
              by_cases h : s ∈ t.take k
              · exact h
              · have := hf0.2 h
                cases this
            have hun2 := f2 hmem
            rw [← hu.out] at hun2
            have Hun := Lib.hid hun2.symm
            clear hf0 f1 f2 hmem hun2 hu hmk hfb
            go_wp2
            go_roundw
            case rel => exact ⟨k + 1, un, by omega, by omega, rfl, by go_num, Hun, hB⟩
            case measure => simp [intOf]; omega
          · have hno : s ∉ t.take k := hf0.1 rfl
            obtain ⟨ha1, hun2⟩ := f1 hno
            rw [← hu.out] at hun2 ha1
            have Hun := Lib.hid hun2.symm
            have ea : ((a : Int) == (un : Int)) = true := by simp; omega
            have ea2 : ((a : Int) != (un : Int)) = false := by simp; omega
            clear hf0 f1 f2 hno hun2 hu hmk ha1 hfb
            go_wp2
            go_roundw
            case rel => exact ⟨k + 1, un + 1, by omega, by omega, by go_num, by go_num, Hun, hB⟩
            case measure => simp [intOf]; omega
    · have hki : k = il := by omega
      have hdu : dl = un := by
        have h1 := hu.out
        rw [hki, Hdl0.out] at h1
        exact h1.symm
      have hB4 : Below w.heap.size w wr := hw4.trans (hB.mono hws)
      subst hdu hki
      go_wp2_with fail
      with_reducible refine (dworks_any _).mono ?_
      rintro e w8 ⟨rfl, hb8⟩
      go_wp2
      go_ret
      exact ⟨rfl, bon hB4 hb8⟩
end Go.Proofs.Ytckaohkhknoocaa
